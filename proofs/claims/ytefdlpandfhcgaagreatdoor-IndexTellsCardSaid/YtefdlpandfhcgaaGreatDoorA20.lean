/- A law of the given program is proved: part 20 of 50. -/
import Derived.Test.YtefdlpandfhcgaaGreatDoorA19
set_option linter.all false
/- AL: the evaluator's equations, in the forms that the walks' simp uses. -/
set_option linter.unusedSimpArgs false
namespace Go.Proofs.YtefdlpandfhcgaaGreatDoor.AL
abbrev int (n : Int) : AV := .val (.int .i64 n)
abbrev str (s : ByteArray) : AV := .val (.string s)
abbrev bool (b : Bool) : AV := .val (.bool b)
abbrev nilS : AV := .val (.slice none 0 0)
abbrev u8 (b : UInt8) : AV := .val (.int .u8 (b.toNat : Int))
theorem argT_0 (x : AV) (xs : List AV) : argT (x :: xs) 0 = x := _root_.id rfl
theorem argT_1 (x y : AV) (xs : List AV) : argT (x :: y :: xs) 1 = y := _root_.id rfl
theorem argT_2 (x y z : AV) (xs : List AV) : argT (x :: y :: z :: xs) 2 = z := _root_.id rfl
theorem hs_int (k : IntKind) (n : Int) : xi (.val (.int k n)) 1 = true := _root_.id rfl
theorem xs9 (b : Bool) : xi (.val (.bool b)) 1 = true := _root_.id rfl
theorem hs_str (s : ByteArray) : xi (.val (.string s)) 1 = true := _root_.id rfl
theorem hs_msl (l n : Nat) : xi (.msl l n) 1 = true := _root_.id rfl
theorem hs_ptr (x : AV) (d : Nat) : xi (.ptr x d) 1 = true := _root_.id rfl
theorem hs_mp (d : Nat) : xi (.mp d) 1 = true := _root_.id rfl
theorem hs_agg (cs : List AV) (n : Nat) : xi (.agg cs) n = (cs.length == n && cs.all AV.one) := _root_.id rfl
theorem xv6 (x : AV) (xs : List AV) : (x :: xs).all AV.one = (x.one && xs.all AV.one) := _root_.id rfl
theorem xt9 : ([] : List AV).all AV.one = true := _root_.id rfl
theorem xiab (k : IntKind) (n : Int) : AV.one (.val (.int k n)) = true := _root_.id rfl
theorem xjab (s : ByteArray) : AV.one (.val (.string s)) = true := _root_.id rfl
theorem xf9 : AV.one nilS = true := _root_.id rfl
theorem one_sl (s : Nat) (xs : List AV) : AV.one (.sl s xs) = true := _root_.id rfl
theorem xs7 (l n : Nat) : AV.one (.msl l n) = true := _root_.id rfl
theorem one_mp (d : Nat) : AV.one (.mp d) = true := _root_.id rfl
def fillK (v : AV) (place : Nat → Option (Nat × Nat)) (cells : List AV) (rest : List (Nat × AV)) (o : Option (Nat × Nat)) : Option (List AV) := match o with
  | none => none
  | some (off, size) => if xi v size = true ∧ off + size ≤ cells.length then fillA place (splice cells off v.cells) rest else none
theorem xr3 (place : Nat → Option (Nat × Nat)) (cells : List AV) : fillA place cells [] = some cells := _root_.id rfl
theorem x1z (place : Nat → Option (Nat × Nat)) (cells : List AV) (i : Nat) (v : AV) (rest : List (Nat × AV)) : fillA place cells ((i, v) :: rest) = fillK v place cells rest (place i) := by
  simp only [fillA, fillK]
  cases place i <;> rfl
theorem xq0 (v : AV) (place : Nat → Option (Nat × Nat)) (cells : List AV) (rest : List (Nat × AV)) (off size : Nat) : fillK v place cells rest (some (off, size)) = if xi v size = true ∧ off + size ≤ cells.length then fillA place (splice cells off v.cells) rest else none := _root_.id rfl
theorem xa0 (cs : List AV) (off : Nat) (vs : List AV) : splice cs off vs = cs.take off ++ vs ++ cs.drop (off + vs.length) := _root_.id rfl
theorem x4z (v : Value) : AV.cells (.val v) = [.val v] := _root_.id rfl
theorem xk5 (a : Nat) : AV.cells (.mp a) = [.mp a] := _root_.id rfl
def guardV (v : AV) (w : Bool) (y n : Prop) : Prop :=
  match v with
  | .val (.bool b) => (b = w → y) ∧ (¬ b = w → n)
  | .val _ => n
  | _ => False
theorem x7t (y n : Prop) : guardV (bool true) true y n = y := by simp [guardV]
theorem x1u (y n : Prop) : guardV (bool true) false y n = n := by simp [guardV]
theorem xwu (y n : Prop) : guardV (bool false) true y n = n := by simp [guardV]
theorem xpu (y n : Prop) : guardV (bool false) false y n = y := by simp [guardV]
def tstR (p : Prop) [Decidable p] : Option (AV × Upds) := some (.val (.bool (decide p)), [])
def brR (b : Bool) : Option (AV × Upds) := some (.val (.bool b), [])
theorem tstR_t : tstR True = some (bool true, []) := _root_.id rfl
theorem tstR_f : tstR False = some (bool false, []) := _root_.id rfl
theorem brR_t : brR true = some (bool true, []) := _root_.id rfl
theorem brR_f : brR false = some (bool false, []) := _root_.id rfl
section
variable (P : Program) (nx0 i : Nat) (op : Op) (d : Option Tmp) (rest : List O1) (T : Nat → AV) (H : Nat → Option AO) (nx : Nat) (K : AS → Prop)
def stepR (x : Option (AV × Upds)) : Prop := Got x fun p => wps1 P nx0 (i + 1) rest ⟨putA T d p.1, applyU H p.2, nx⟩ K
def callR : Prop := Sem1 P op H nx (nx0 + i) (ev T) fun v H' nx' => wps1 P nx0 (i + 1) rest ⟨putA T d v, H', nx'⟩ K
def opR (c : Bool) : Prop := if c = true then callR P nx0 i op d rest T H nx K else stepR P nx0 i d rest T H nx K (evalOp P op H (nx0 + i) (ev T))
def gR (v : AV) (w : Bool) : Prop := guardV v w (opR P nx0 i op d rest T H nx K (isCall op)) (wps1 P nx0 (i + 1) rest ⟨putA T d (.val undef), H, nx⟩ K)
theorem x14 (s : AS) : wps1 P nx0 i [] s K = K s := _root_.id rfl
theorem xz2 : wps1 P nx0 i (⟨op, d, none⟩ :: rest) ⟨T, H, nx⟩ K = opR P nx0 i op d rest T H nx K (isCall op) := _root_.id rfl
theorem xq3 (g : Tmp) (w : Bool) : wps1 P nx0 i (⟨op, d, some (g, w)⟩ :: rest) ⟨T, H, nx⟩ K = gR P nx0 i op d rest T H nx K (T g) w := _root_.id rfl
theorem opR_t : opR P nx0 i op d rest T H nx K true = callR P nx0 i op d rest T H nx K := _root_.id rfl
theorem opR_f : opR P nx0 i op d rest T H nx K false = stepR P nx0 i d rest T H nx K (evalOp P op H (nx0 + i) (ev T)) := _root_.id rfl
theorem gR_tt : gR P nx0 i op d rest T H nx K (bool true) true = opR P nx0 i op d rest T H nx K (isCall op) := x7t _ _
theorem gR_ff : gR P nx0 i op d rest T H nx K (bool false) false = opR P nx0 i op d rest T H nx K (isCall op) := xpu _ _
theorem gR_tf : gR P nx0 i op d rest T H nx K (bool true) false = wps1 P nx0 (i + 1) rest ⟨putA T d (.val undef), H, nx⟩ K := x1u _ _
theorem gR_ft : gR P nx0 i op d rest T H nx K (bool false) true = wps1 P nx0 (i + 1) rest ⟨putA T d (.val undef), H, nx⟩ K := xwu _ _
theorem xg4 (w : Bool) : gR P nx0 i op d rest T H nx K (.val undef) w = wps1 P nx0 (i + 1) rest ⟨putA T d (.val undef), H, nx⟩ K := _root_.id rfl
theorem xk0 (v : AV) (us : Upds) : stepR P nx0 i d rest T H nx K (some (v, us)) = wps1 P nx0 (i + 1) rest ⟨putA T d v, applyU H us, nx⟩ K := by simp [stepR, Got]
theorem xn2 (p : Prop) [Decidable p] : stepR P nx0 i d rest T H nx K (tstR p) = ((p → wps1 P nx0 (i + 1) rest ⟨putA T d (bool true), H, nx⟩ K) ∧ (¬ p → wps1 P nx0 (i + 1) rest ⟨putA T d (bool false), H, nx⟩ K)) := by
  by_cases h : p <;> simp [stepR, Got, tstR, h, applyU]
theorem xu1 (c : Prop) [Decidable c] (x : Option (AV × Upds)) : stepR P nx0 i d rest T H nx K (if c then x else none) = (c ∧ stepR P nx0 i d rest T H nx K x) := by
  by_cases h : c <;> simp [stepR, Got, h]
variable (B : List Nat) (rd : List Bool)
def stepD (x : Option (AV × Upds)) : Prop := Got x fun p => wpsD1 P B rd nx0 (i + 1) rest ⟨putA T d p.1, applyU H p.2, nx⟩ K
def callD : Prop := ∃ v, OpS1 P op (viewD nx0 (B.getD i 0) (rd.getD i false) H) (ev T) (nx0 + i) v ∧ wpsD1 P B rd nx0 (i + 1) rest ⟨putA T d v, H, nx⟩ K
def opD (c : Bool) : Prop := if c = true then callD P nx0 i op d rest T H nx K B rd else stepD P nx0 i d rest T H nx K B rd (evalOp P op (viewD nx0 (B.getD i 0) (rd.getD i false) H) (nx0 + i) (ev T))
def gD (v : AV) (w : Bool) : Prop := guardV v w (opD P nx0 i op d rest T H nx K B rd (isCall op)) (wpsD1 P B rd nx0 (i + 1) rest ⟨putA T d (.val undef), H, nx⟩ K)
theorem xo2 (s : AS) : wpsD1 P B rd nx0 i [] s K = K s := _root_.id rfl
theorem xx0 : wpsD1 P B rd nx0 i (⟨op, d, none⟩ :: rest) ⟨T, H, nx⟩ K = opD P nx0 i op d rest T H nx K B rd (isCall op) := _root_.id rfl
theorem xv0 (g : Tmp) (w : Bool) : wpsD1 P B rd nx0 i (⟨op, d, some (g, w)⟩ :: rest) ⟨T, H, nx⟩ K = gD P nx0 i op d rest T H nx K B rd (T g) w := _root_.id rfl
theorem opD_t : opD P nx0 i op d rest T H nx K B rd true = callD P nx0 i op d rest T H nx K B rd := _root_.id rfl
theorem opD_f : opD P nx0 i op d rest T H nx K B rd false = stepD P nx0 i d rest T H nx K B rd (evalOp P op (viewD nx0 (B.getD i 0) (rd.getD i false) H) (nx0 + i) (ev T)) := _root_.id rfl
theorem gD_tt : gD P nx0 i op d rest T H nx K B rd (bool true) true = opD P nx0 i op d rest T H nx K B rd (isCall op) := x7t _ _
theorem gD_ff : gD P nx0 i op d rest T H nx K B rd (bool false) false = opD P nx0 i op d rest T H nx K B rd (isCall op) := xpu _ _
theorem gD_tf : gD P nx0 i op d rest T H nx K B rd (bool true) false = wpsD1 P B rd nx0 (i + 1) rest ⟨putA T d (.val undef), H, nx⟩ K := x1u _ _
theorem gD_ft : gD P nx0 i op d rest T H nx K B rd (bool false) true = wpsD1 P B rd nx0 (i + 1) rest ⟨putA T d (.val undef), H, nx⟩ K := xwu _ _
theorem xc4 (w : Bool) : gD P nx0 i op d rest T H nx K B rd (.val undef) w = wpsD1 P B rd nx0 (i + 1) rest ⟨putA T d (.val undef), H, nx⟩ K := _root_.id rfl
theorem xm0 (v : AV) (us : Upds) : stepD P nx0 i d rest T H nx K B rd (some (v, us)) = wpsD1 P B rd nx0 (i + 1) rest ⟨putA T d v, applyU H us, nx⟩ K := by simp [stepD, Got]
theorem xl2 (c : Prop) [Decidable c] (x : Option (AV × Upds)) : stepD P nx0 i d rest T H nx K B rd (if c then x else none) = (c ∧ stepD P nx0 i d rest T H nx K B rd x) := by
  by_cases h : c <;> simp [stepD, Got, h]
end
section
variable (P : Program) (nx0 i : Nat) (op : Op) (d : Option Tmp) (rest : List O1) (T : Nat → AV) (H : Nat → Option AO) (nx : Nat) (K : AS → Prop) (V W : List Nat) (VW : List (List Nat × List Nat))
def stepV (x : Option (AV × Upds)) : Prop := Got x fun p => okL W (nx0 + i) p.2 ∧ wpsV1 P nx0 (i + 1) rest VW ⟨putA T d p.1, applyU H p.2, nx⟩ K
def callV : Prop := ∃ v us, OpSL P op (viewL V W H) (ev T) (nx0 + i) v us ∧ okL W (nx0 + i) us ∧ wpsV1 P nx0 (i + 1) rest VW ⟨putA T d v, applyU H us, nx⟩ K
def opV (c : Bool) : Prop := if c = true then callV P nx0 i op d rest T H nx K V W VW else stepV P nx0 i d rest T H nx K W VW (evalOp P op (viewL V W H) (nx0 + i) (ev T))
theorem x61 (s : AS) : wpsV1 P nx0 i [] VW s K = K s := by cases VW <;> rfl
theorem xxz : wpsV1 P nx0 i (⟨op, d, none⟩ :: rest) ((V, W) :: VW) ⟨T, H, nx⟩ K = opV P nx0 i op d rest T H nx K V W VW (isCall op) := _root_.id rfl
theorem opV_t : opV P nx0 i op d rest T H nx K V W VW true = callV P nx0 i op d rest T H nx K V W VW := _root_.id rfl
theorem opV_f : opV P nx0 i op d rest T H nx K V W VW false = stepV P nx0 i d rest T H nx K W VW (evalOp P op (viewL V W H) (nx0 + i) (ev T)) := _root_.id rfl
theorem xh1 (v : AV) (us : Upds) : stepV P nx0 i d rest T H nx K W VW (some (v, us)) = (okL W (nx0 + i) us ∧ wpsV1 P nx0 (i + 1) rest VW ⟨putA T d v, applyU H us, nx⟩ K) := by simp [stepV, Got]
end
theorem xs6 (V W : List Nat) (H : Nat → Option AO) (l : Nat) : viewL V W H l = if l ∈ V ∨ l ∈ W then H l else none := _root_.id rfl
theorem mem_c (l a : Nat) (A : List Nat) : (l ∈ a :: A) = (l = a ∨ l ∈ A) := propext List.mem_cons
theorem mem_n (l : Nat) : (l ∈ ([] : List Nat)) = False := by simp
theorem xnab (W : List Nat) (new : Nat) : okL W new [] = True := _root_.id rfl
theorem xq6 (W : List Nat) (new l : Nat) (o : Option AO) (us : Upds) : okL W new ((l, o) :: us) = ((l = new ∨ l ∈ W) ∧ okL W new us) := _root_.id rfl
def tbK (b : Bool) (p : Prop) : Prop := if b = true then True else p
theorem tbK_t (p : Prop) : tbK true p = True := by simp [tbK]
theorem tbK_f (p : Prop) : tbK false p = p := by simp [tbK]
theorem x93 (nx i : Nat) (B : List Nat) (dn : List (List Nat × List Nat)) : meetA nx i B dn [] = True := by cases B <;> rfl
theorem xf0 (nx i b : Nat) (B : List Nat) (dn : List (List Nat × List Nat)) (p : List Nat × List Nat) (r : List (List Nat × List Nat)) : meetA nx i (b :: B) dn (p :: r) = (meetR nx i b p.1 p.2 0 dn ∧ meetA nx (i + 1) B (dn ++ [p]) r) := _root_.id rfl
theorem xa2 (nx i b : Nat) (V W : List Nat) (j : Nat) : meetR nx i b V W j [] = True := _root_.id rfl
theorem xa1 (nx i b : Nat) (V W : List Nat) (j : Nat) (p : List Nat × List Nat) (r : List (List Nat × List Nat)) : meetR nx i b V W j (p :: r) = (tbK (b.testBit j) ((dis ((nx + i) :: W) p.1 ∧ dis ((nx + i) :: W) p.2) ∧ dis ((nx + j) :: p.2) V ∧ dis ((nx + j) :: p.2) W) ∧ meetR nx i b V W (j + 1) r) := _root_.id rfl
theorem xg9 (B : List Nat) : dis [] B = True := _root_.id rfl
theorem x85 (a : Nat) (A B : List Nat) : dis (a :: A) B = (ne1 a B ∧ dis A B) := _root_.id rfl
theorem xy8 (a : Nat) : ne1 a [] = True := _root_.id rfl
theorem x86 (a b : Nat) (B : List Nat) : ne1 a (b :: B) = (a ≠ b ∧ ne1 a B) := _root_.id rfl
theorem vw_app (a : List Nat × List Nat) (l r : List (List Nat × List Nat)) : (a :: l) ++ r = a :: (l ++ r) := _root_.id rfl
theorem xt8 (r : List (List Nat × List Nat)) : [] ++ r = r := _root_.id rfl
theorem xd3 (nx b : Nat) (H : Nat → Option AO) : viewD nx b false H = fun _ => none := _root_.id rfl
theorem xj5 (nx b : Nat) (H : Nat → Option AO) (l : Nat) : viewD nx b true H l = if l < nx ∨ b.testBit (l - nx) = true then H l else none := _root_.id rfl
theorem xc3 (T : Nat → AV) (d : Tmp) (v : AV) : putA T (some d) v = upd T d v := _root_.id rfl
theorem x81 (T : Nat → AV) (v : AV) : putA T none v = T := _root_.id rfl
theorem x0z (H : Nat → Option AO) : applyU H [] = H := _root_.id rfl
theorem xby (H : Nat → Option AO) (l : Nat) (o : Option AO) (us : Upds) : applyU H ((l, o) :: us) = applyU (upd H l o) us := _root_.id rfl
theorem ev_tmp (T : Nat → AV) (t : Tmp) : ev T (.tmp t) = T t := _root_.id rfl
theorem x15 (T : Nat → AV) (v : Value) : ev T (.const v) = xrg v := _root_.id rfl
theorem xhy (k : IntKind) (n : Int) : xrg (.int k n) = .val (.int k n) := _root_.id rfl
theorem xlx (b : Bool) : xrg (.bool b) = .val (.bool b) := _root_.id rfl
theorem xvy (s : ByteArray) : xrg (.string s) = .val (.string s) := _root_.id rfl
theorem x8u (a : Option Addr) (l c : Nat) : xrg (.slice a l c) = .val (.slice a l c) := _root_.id rfl
theorem x7x : xrg (.pointer none) = .val (.pointer none) := _root_.id rfl
def convA (P : Program) (S D : TypeId) (x : AV) : Option AV := match P.underlying S with
  | some _ => match x with
    | .val (.int _ n) => (intOfT P D).map fun k' => .val (.int k' (k'.wrap n))
    | .val (.string s) => match kindOf P D with
      | .str => some (.val (.string s))
      | _ => none
    | .sl sz xs => if sz = 1 then x5h P S D xs else none
    | _ => none
  | none => none
def convE (P : Program) (S D : TypeId) (x : AV) : Option (AV × Upds) := (convA P S D x).map fun v => (v, [])
def convV (P : Program) (S D : TypeId) (V : Nat → Option AO) (x : AV) : Option (AV × Upds) := match x with
  | .msl l n => (x6k P S D V l n).map fun v => (v, [])
  | x => convE P S D x
theorem xy2 (P : Program) (V : Nat → Option AO) (new : Nat) (ρ : Operand → AV) (S D : TypeId) (x : Operand) : evalOp P (.convert S D x) V new ρ = convV P S D V (ρ x) := by
  simp only [evalOp, xpc]
  generalize ρ x = y
  cases y <;> rfl
theorem CV_val (P : Program) (V : Nat → Option AO) (S D : TypeId) (v : Value) : convV P S D V (.val v) = convE P S D (.val v) := _root_.id rfl
theorem x4q {P : Program} {S D : TypeId} {k k' : IntKind} (n : Int) (hS : (P.underlying S).isSome = true) (hD : intOfT P D = some k') : convE P S D (.val (.int k n)) = some (.val (.int k' (k'.wrap n)), []) := by
  obtain ⟨d, hd⟩ := Option.isSome_iff_exists.1 hS
  simp [convE, convA, hd, hD]
section
variable (P : Program) (V : Nat → Option AO) (new : Nat) (ρ : Operand → AV)
theorem E_move (x : Operand) : evalOp P (.move x) V new ρ = some (ρ x, []) := _root_.id rfl
theorem x44 (x : Operand) : evalOp P (.assign x) V new ρ = some (ρ x, []) := _root_.id rfl
def pickK (c x y : AV) : Option (AV × Upds) := match c with
  | .val (.bool t) => some (if t = true then x else y, [])
  | _ => none
theorem E_pick (c x y : Operand) : evalOp P (.pick c x y) V new ρ = pickK (ρ c) (ρ x) (ρ y) := by
  simp only [evalOp, xpc, pickK]
  generalize ρ c = z
  cases z with
  | val v => cases v <;> rfl
  | _ => rfl
theorem x49 (x y : AV) : pickK (bool true) x y = some (x, []) := _root_.id rfl
theorem xd8 (x y : AV) : pickK (bool false) x y = some (y, []) := _root_.id rfl
def allocK (new T : Nat) : Option (Bool × Nat) → Option AV → Option (AV × Upds)
  | some (_, n), some z => if xi z n = true then some (.loc new n 0 0, [(new, some (.row T n [z]))]) else none
  | _, _ => none
theorem xoh (T : TypeId) : evalOp P (.alloc T) V new ρ = allocK new T (aggN P T) (zeroOf P T) := by
  simp only [evalOp, xcj]; rfl
theorem xvd (T : Nat) (b : Bool) (n : Nat) (z : AV) : allocK new T (some (b, n)) (some z) = if xi z n = true then some (.loc new n 0 0, [(new, some (.row T n [z]))]) else none := _root_.id rfl
def boxK (new T : Nat) (x : AV) : Option (Bool × Nat) → Option (AV × Upds)
  | some (_, n) => if xi x n = true then some (.loc new n 0 0, [(new, some (.row T n [x]))]) else none
  | none => none
theorem E_box (T : TypeId) (x : Operand) : evalOp P (.box T x) V new ρ = boxK new T (ρ x) (aggN P T) := by
  simp only [evalOp, xdm, boxK]; split <;> simp_all
theorem xfd (T : Nat) (x : AV) (b : Bool) (n : Nat) : boxK new T x (some (b, n)) = if xi x n = true then some (.loc new n 0 0, [(new, some (.row T n [x]))]) else none := _root_.id rfl
def xmg (P : Program) (e len new : Nat) (ps : List (Nat × AV)) : Option (Bool × Nat) → Option AV → Option (AV × Upds)
  | some (_, n), some z => if xi z n = true ∧ len * n ≤ 16777216 ∧ 0 < n then (setsA n (List.replicate len z) ps).map fun xs => (.msl new len, [(new, some (.row e n xs))]) else none
  | _, _ => none
theorem xli (T len : Nat) (parts : Array (Nat × Operand)) (e : TypeId) (he : xfb P T = some e) :
    evalOp P (.buildSlice T len parts) V new ρ = xmg P e len new (parts.toList.map fun p => (p.1, ρ p.2)) (aggN P e) (zeroOf P e) := by
  simp only [evalOp, xif, he, xmg]; rfl
theorem E_load (T : TypeId) (a : Operand) : evalOp P (.load T a) V new ρ = (xpd P T V (ρ a)).map fun v => (v, []) := _root_.id rfl
theorem xd2 (T : TypeId) : evalOp P (.makeMap T none) V new ρ = xog P T new := _root_.id rfl
theorem xg6 (T : TypeId) (m k : Operand) (c : Bool) : evalOp P (.lookup T m k c) V new ρ = (xxd P T c V (ρ m) (ρ k)).map fun v => (v, []) := _root_.id rfl
theorem x5x (T : TypeId) (m k x : Operand) : evalOp P (.mapUpdate T m k x) V new ρ = (xjd P T V (ρ m) (ρ k) (ρ x)).map fun us => (.val undef, us) := _root_.id rfl
def lookK (c : Bool) (d : TypeDesc) (z : Option AV) (kv : Value) (o : Option AO) : Option AV := match o with
  | some (.map ks vs) => if isKeyB d kv = true ∧ ks.all (isKeyB d) = true then
        match ks.findIdx? (keyEq kv) with
        | some j => (vs[j]?).map fun v => xoe c v true
        | none => z.map fun z => xoe c z false
      else none
  | _ => none
theorem x99 {T et : TypeId} {d : TypeDesc} (h : mapOf P T = some (d, et)) (c : Bool) (l : Nat) (kv : Value) : xxd P T c V (.mp l) (.val kv) = lookK c d (zeroOf P et) kv (V l) := by
  simp only [xxd, h, lookK]
  cases V l with
  | none => rfl
  | some o => cases o <;> rfl
def mupdK (d : TypeDesc) (kv : Value) (x : AV) (l : Nat) (o : Option AO) : Option Upds := match o with
  | some (.map ks vs) => if isKeyB d kv = true ∧ ks.all (isKeyB d) = true then
        match ks.findIdx? (keyEq kv) with
        | some j => some [(l, some (.map ks (vs.set j x)))]
        | none => some [(l, some (.map (ks ++ [kv]) (vs ++ [x])))]
      else none
  | _ => none
theorem xoab {T et : TypeId} {d : TypeDesc} (h : mapOf P T = some (d, et)) (l : Nat) (kv : Value) (x : AV) : xjd P T V (.mp l) (.val kv) x = mupdK d kv x l (V l) := by
  simp only [xjd, h, mupdK]
  cases V l with
  | none => rfl
  | some o => cases o <;> rfl
theorem xw8 (T : TypeId) (a x : Operand) : evalOp P (.store T a x) V new ρ = (x6b P T V (ρ a) (ρ x)).map fun us => (.val undef, us) := _root_.id rfl
theorem xjy (T : TypeId) (l c : Operand) : evalOp P (.makeSlice T l c) V new ρ = xmd P T (ρ l) (ρ c) new := _root_.id rfl
theorem x66 (s x : Operand) (t : TypeId) : evalOp P (.call (Call.mk (.builtin .append) #[s, x] #[t, t])) V new ρ = x0e P t V (ρ s) (ρ x) new := by
  simp [evalOp]
theorem E_len (x : Operand) (T : TypeId) : evalOp P (.call (Call.mk (.builtin .len) #[x] #[T])) V new ρ = (xdc P T (ρ x)).map fun v => (v, []) := by
  simp [evalOp, xpc]
theorem xx7 (T : TypeId) (parts : Array (Nat × Operand)) : evalOp P (.build T parts) V new ρ = (xwb P T (parts.toList.map fun p => (p.1, ρ p.2))).map fun v => (v, []) := _root_.id rfl
def nilK (x : AV) : Option (AV × Upds) := match x with
  | .loc l sz i off => some (.loc l sz i off, [])
  | .ptr y off => some (.ptr y off, [])
  | .fn (.func f) a b => some (.fn (.func f) a b, [])
  | _ => none
theorem x80 (x : Operand) : evalOp P (.nilCheck x) V new ρ = nilK (ρ x) := by
  simp only [evalOp, xpc, nilK]
  generalize ρ x = z
  cases z with
  | val v => rfl
  | fn f a b => cases f <;> rfl
  | _ => rfl
theorem xf6 (l sz i off : Nat) : nilK (.loc l sz i off) = some (.loc l sz i off, []) := _root_.id rfl
theorem xd4 (y : AV) (off : Nat) : nilK (.ptr y off) = some (.ptr y off, []) := _root_.id rfl
def binK (P : Program) (op : BinOp) (T : TypeId) (x y : AV) : Option (AV × Upds) := match y with
  | .val .nilIface => none
  | v => (x0b P op T x v).map fun v => (v, [])
theorem E_bin (op : BinOp) (T yT : TypeId) (x : Operand) (t : Tmp) : evalOp P (.binOp op T x (.tmp t) yT) V new ρ = binK P op T (ρ x) (ρ (.tmp t)) := by
  simp only [evalOp, xpc, binK]
  generalize ρ (.tmp t) = z
  cases z with
  | val v => cases v <;> rfl
  | _ => rfl
theorem E_binI (op : BinOp) (T yT : TypeId) (x : Operand) (k : IntKind) (n : Int) : evalOp P (.binOp op T x (.const (.int k n)) yT) V new ρ = binK P op T (ρ x) (ρ (.const (.int k n))) := by
  simp only [evalOp, xpc, binK]
  generalize ρ (.const (.int k n)) = z
  cases z with
  | val v => cases v <;> rfl
  | _ => rfl
theorem E_binS (op : BinOp) (T yT : TypeId) (x : Operand) (s : ByteArray) : evalOp P (.binOp op T x (.const (.string s)) yT) V new ρ = binK P op T (ρ x) (ρ (.const (.string s))) := by
  simp only [evalOp, xpc, binK]
  generalize ρ (.const (.string s)) = z
  cases z with
  | val v => cases v <;> rfl
  | _ => rfl
theorem E_binN (op : BinOp) (T yT : TypeId) (x : Operand) : evalOp P (.binOp op T x (.const .nilIface) yT) V new ρ = (x0b P op T (ρ x) (.val .nilIface)).map fun v => (v, []) := _root_.id rfl
section
variable (k : IntKind) (a b : Int) (T : TypeId)
theorem B_add : binK P .add T (.val (.int k a)) (.val (.int k b)) = some (.val (.int k (k.wrap (a + b))), []) := by simp [binK, x0b, xud]
theorem B_sub : binK P .sub T (.val (.int k a)) (.val (.int k b)) = some (.val (.int k (k.wrap (a - b))), []) := by simp [binK, x0b, xud]
theorem B_mul : binK P .mul T (.val (.int k a)) (.val (.int k b)) = some (.val (.int k (k.wrap (a * b))), []) := by simp [binK, x0b, xud]
theorem B_quo : binK P .quo T (.val (.int k a)) (.val (.int k b)) = if b = 0 then none else some (.val (.int k (k.wrap (a.tdiv b))), []) := by
  by_cases h : b = 0 <;> simp [binK, x0b, xud, h]
theorem B_rem : binK P .rem T (.val (.int k a)) (.val (.int k b)) = if b = 0 then none else some (.val (.int k (a.tmod b)), []) := by
  by_cases h : b = 0 <;> simp [binK, x0b, xud, h]
def bAnd (k : IntKind) (a b : Int) : Int := k.wrap (BitVec.ofInt k.bits a &&& BitVec.ofInt k.bits b).toNat
theorem B_and : binK P .and T (.val (.int k a)) (.val (.int k b)) = some (.val (.int k (bAnd k a b)), []) := by simp [binK, x0b, xud, bAnd]
theorem B_eql : binK P .eql T (.val (.int k a)) (.val (.int k b)) = tstR (a = b) := by simp [binK, x0b, xud, tstR]; rfl
theorem B_neq : binK P .neq T (.val (.int k a)) (.val (.int k b)) = tstR (¬ a = b) := by
  simp only [binK, x0b, xud, tstR]
  by_cases h : a = b <;> simp [h]
theorem B_lss : binK P .lss T (.val (.int k a)) (.val (.int k b)) = tstR (a < b) := by simp [binK, x0b, xud, tstR]
theorem B_leq : binK P .leq T (.val (.int k a)) (.val (.int k b)) = tstR (a ≤ b) := by simp [binK, x0b, xud, tstR]
theorem B_gtr : binK P .gtr T (.val (.int k a)) (.val (.int k b)) = tstR (b < a) := by simp [binK, x0b, xud, tstR]
theorem B_geq : binK P .geq T (.val (.int k a)) (.val (.int k b)) = tstR (b ≤ a) := by simp [binK, x0b, xud, tstR]
variable (s t : ByteArray)
theorem xfl : (s == t) = decide (s = t) := by
  rw [beq_toListBytes, ByteArray.toList_eq, ByteArray.toList_eq]
  obtain ⟨⟨x⟩⟩ := s
  obtain ⟨⟨y⟩⟩ := t
  by_cases h : x = y
  · subst h; simp
  · have : ¬ (ByteArray.mk ⟨x⟩ = ByteArray.mk ⟨y⟩) := fun e => h (by injection e with e; injection e)
    simp [h, this]
theorem S_eql : binK P .eql T (.val (.string s)) (.val (.string t)) = tstR (s = t) := by simp [binK, x0b, x0l, xfl, tstR]
theorem S_neq : binK P .neq T (.val (.string s)) (.val (.string t)) = tstR (¬ s = t) := by simp [binK, x0b, x0l, xfl, tstR]
theorem S_add : binK P .add T (.val (.string s)) (.val (.string t)) = if s.size + t.size ≤ 9223372036854775807 then some (.val (.string (s ++ t)), []) else none := by
  by_cases h : s.size + t.size ≤ 9223372036854775807 <;> simp [binK, x0b, x0l, h]
end
def notK (x : AV) : Option (AV × Upds) := match x with
  | .val (.bool b) => some (.val (.bool !b), [])
  | _ => none
theorem E_not (T : TypeId) (x : Operand) : evalOp P (.unOp .not T x) V new ρ = notK (ρ x) := by
  simp only [evalOp, xpc, notK]
  generalize ρ x = z
  cases z with
  | val v => cases v <;> rfl
  | _ => rfl
theorem notK_b (b : Bool) : notK (bool b) = some (bool !b, []) := _root_.id rfl
theorem xoy (T : TypeId) (x : Operand) (f : Nat) : evalOp P (.fieldAddr T x f) V new ρ = (xe P T f (ρ x)).map fun v => (v, []) := _root_.id rfl
theorem x98 (T : TypeId) (x : Operand) (f : Nat) : evalOp P (.field T x f) V new ρ = (xzf P T f (ρ x)).map fun v => (v, []) := _root_.id rfl
theorem xqy (T : TypeId) (x i : Operand) : evalOp P (.indexAddr T x i) V new ρ = (xjb P T (ρ x) (ρ i)).map fun v => (v, []) := _root_.id rfl
theorem xp8 (T : TypeId) (x i : Operand) : evalOp P (.index T x i) V new ρ = (xh P T (ρ x) (ρ i)).map fun v => (v, []) := _root_.id rfl
theorem xw4 (ρ : Operand → AV) (x : Operand) : opt ρ (some x) = some (ρ x) := _root_.id rfl
theorem xz4 (ρ : Operand → AV) : opt ρ none = none := _root_.id rfl
theorem xpab (T : TypeId) (x : Operand) (lo hi mx : Option Operand) : evalOp P (.slice T x lo hi mx) V new ρ = (x9b P T (ρ x) (opt ρ lo) (opt ρ hi) (opt ρ mx)).map fun v => (v, []) := _root_.id rfl
theorem xj0 (f : Fn) (a b : List Operand) : evalOp P (.makeFunc f a.toArray b.toArray) V new ρ = some (.fn f (a.map ρ) (b.map ρ), []) := _root_.id rfl
def xgw (x : AV) (i : Nat) : Option AV := match x with
  | .tup vs => vs[i]?
  | _ => none
theorem xj3 (x : Operand) (i : Nat) : evalOp P (.extract x i) V new ρ = (xgw (ρ x) i).map fun v => (v, []) := _root_.id rfl
theorem xqx (vs : List AV) (i : Nat) : xgw (.tup vs) i = vs[i]? := _root_.id rfl
end
section
variable (P : Program)
theorem xv {T f o ft n : Nat} {b : Bool} (h : xcb P T f = some (o, ft)) (h2 : aggN P ft = some (b, n)) (hn : n ≠ 0) (l sz i off : Nat) : xe P T f (.loc l sz i off) = some (.loc l sz i (off + o)) := by
  simp [xe, h, h2, hn]
theorem xee {T f o ft n : Nat} {b : Bool} (h : xcb P T f = some (o, ft)) (h2 : aggN P ft = some (b, n)) (hn : n ≠ 0) (y : AV) (off : Nat) : xe P T f (.ptr y off) = some (.ptr y (off + o)) := by
  simp [xe, h, h2, hn]
theorem x0d {T e s : Nat} {b : Bool} (h : xfb P T = some e) (h2 : aggN P e = some (b, s)) (xs : List AV) (k : IntKind) (n : Int) :
    xjb P T (.sl s xs) (.val (.int k n)) = if 0 ≤ n then (xs[n.toNat]?).map fun z => .ptr z 0 else none := by
  simp [xjb, h, h2]
theorem xmn {T e s : Nat} {b : Bool} (h : xfb P T = some e) (h2 : aggN P e = some (b, s)) (l len : Nat) (k : IntKind) (n : Int) :
    xjb P T (.msl l len) (.val (.int k n)) = if 0 ≤ n ∧ n < len then some (.loc l s n.toNat 0) else none := by
  simp [xjb, h, h2]
theorem xcm {T e s len : Nat} {b : Bool} (h0 : xfb P T = none) (h : arrOfT P T = some (len, e)) (h2 : aggN P e = some (b, s)) (l sz i off : Nat) (k : IntKind) (n : Int) :
    xjb P T (.loc l sz i off) (.val (.int k n)) = if 0 ≤ n ∧ n < len then some (.loc l sz i (off + n.toNat * s)) else none := by
  simp [xjb, h0, h, h2]
theorem xh2 {T : Nat} (h : kindOf P T = .str) (s : ByteArray) (k : IntKind) (n : Int) : xh P T (.val (.string s)) (.val (.int k n)) = if 0 ≤ n then (s[n.toNat]?).map fun b => u8 b else none := by
  simp [xh, h]
theorem len_sl {T e : Nat} (h : xfb P T = some e) (sz : Nat) (xs : List AV) : xdc P T (.sl sz xs) = some (int xs.length) := by simp [xdc, h]
theorem x2y {T e : Nat} (h : xfb P T = some e) (l n : Nat) : xdc P T (.msl l n) = some (int n) := by simp [xdc, h]
theorem x19 {T e : Nat} (h : xfb P T = some e) : xdc P T nilS = some (int 0) := by simp [xdc, h]
theorem x48 {T : Nat} (h : kindOf P T = .str) (s : ByteArray) : xdc P T (.val (.string s)) = some (int s.size) := by simp [xdc, h]
theorem x55 (T : TypeId) (V : Nat → Option AO) (y : AV) (off : Nat) : xpd P T V (.ptr y off) = evalLd P T y off := _root_.id rfl
def rowAt (o : Option AO) (sz i : Nat) : Option AV := match o with
  | some (.row _ sz' xs) => if sz = sz' then xs[i]? else none
  | _ => none
theorem xc6 (T : TypeId) (V : Nat → Option AO) (l sz i off : Nat) : xpd P T V (.loc l sz i off) = (rowAt (V l) sz i).bind fun y => evalLd P T y off := by
  simp only [xpd, rowAt]
  cases V l with
  | none => rfl
  | some o =>
    cases o with
    | row T' sz' xs =>
      by_cases e : sz = sz'
      · simp only [e, if_true]; cases xs[i]? <;> rfl
      · simp [e]
    | map ks vs => rfl
    | siter s p => rfl
    | mapb bs ck ks vs => rfl
theorem x62 (T sz i : Nat) (xs : List AV) : rowAt (some (.row T sz xs)) sz i = xs[i]? := by simp [rowAt]
theorem ld_agg {T n : Nat} (h : aggN P T = some (true, n)) (y : AV) (off : Nat) : evalLd P T y off = ldAgg y off n := by simp [evalLd, h]
theorem ld_one {T n : Nat} (h : aggN P T = some (false, n)) (y : AV) (off : Nat) : evalLd P T y off = ldOne y off := by simp [evalLd, h]
theorem xay (cs : List AV) (n : Nat) (h : cs.length = n) : ldAgg (.agg cs) 0 n = some (.agg cs) := by simp [ldAgg, h]
theorem xr2 (cs : List AV) (off : Nat) : ldOne (.agg cs) off = cs[off]? := _root_.id rfl
theorem x82 (k : IntKind) (n : Int) : ldOne (.val (.int k n)) 0 = some (.val (.int k n)) := _root_.id rfl
theorem x2z (b : Bool) : ldOne (.val (.bool b)) 0 = some (.val (.bool b)) := _root_.id rfl
theorem xm2 (s n : Nat) : ldOne (.msl s n) 0 = some (.msl s n) := _root_.id rfl
theorem xw1 (x : AV) (d : Nat) : ldOne (.ptr x d) 0 = some (.ptr x d) := _root_.id rfl
def rowT (o : Option AO) (sz i : Nat) : Option (Nat × List AV × AV) := match o with
  | some (.row T sz' xs) => if sz = sz' then (xs[i]?).map fun x => (T, xs, x) else none
  | _ => none
theorem xhd {T n : Nat} {b : Bool} (h : aggN P T = some (b, n)) (V : Nat → Option AO) (l sz i off : Nat) (v : AV) :
    x6b P T V (.loc l sz i off) v = if xi v n = true then (rowT (V l) sz i).bind fun p => (stAV p.2.2 off v).map fun x' => [(l, some (.row p.1 sz (p.2.1.set i x')))] else none := by
  unfold x6b rowT
  simp only [h]
  split
  · cases V l with
    | none => rfl
    | some o =>
      cases o with
      | row T' sz' xs =>
        by_cases e : sz = sz'
        · subst e
          simp only [if_true]
          cases xs[i]? <;> rfl
        · simp [e]
      | map ks vs => rfl
      | siter s p => rfl
      | mapb bs ck ks vs => rfl
  · rfl
theorem xn6 (T sz i : Nat) (xs : List AV) : rowT (some (.row T sz xs)) sz i = (xs[i]?).map fun x => (T, xs, x) := by simp [rowT]
theorem xg0 {α β : Type} (a : α) (f : α → Option β) : (some a).bind f = f a := _root_.id rfl
theorem xd7 (cs vs : List AV) (h : vs.length = cs.length) : stAV (.agg cs) 0 (.agg vs) = some (.agg vs) := by simp [stAV, h]
end
end Go.Proofs.YtefdlpandfhcgaaGreatDoor.AL

