/- A law of the given program is proved: part 20 of 51. -/
import Derived.Test.YtfkgckbdknpcnaaGreatDoorA19
set_option linter.all false
/- AL: the evaluator's equations, in the forms that the walks' simp uses. -/
set_option linter.unusedSimpArgs false
namespace Go.Proofs.YtfkgckbdknpcnaaGreatDoor.AL
abbrev int (n : Int) : AV := .val (.int .i64 n)
abbrev str (s : ByteArray) : AV := .val (.string s)
abbrev bool (b : Bool) : AV := .val (.bool b)
abbrev nilS : AV := .val (.slice none 0 0)
abbrev u8 (b : UInt8) : AV := .val (.int .u8 (b.toNat : Int))
theorem xpbb {α : Type} (a : α) (k : α → Prop) : Got (some a) k = k a := by simp [Got]
theorem argT_0 (x : AV) (xs : List AV) : argT (x :: xs) 0 = x := _root_.id rfl
theorem argT_1 (x y : AV) (xs : List AV) : argT (x :: y :: xs) 1 = y := _root_.id rfl
theorem argT_2 (x y z : AV) (xs : List AV) : argT (x :: y :: z :: xs) 2 = z := _root_.id rfl
theorem argT_3 (x y z u : AV) (xs : List AV) : argT (x :: y :: z :: u :: xs) 3 = u := _root_.id rfl
theorem hs_int (k : IntKind) (n : Int) : xj (.val (.int k n)) 1 = true := _root_.id rfl
theorem x2hb (b : Bool) : xj (.val (.bool b)) 1 = true := _root_.id rfl
theorem hs_str (s : ByteArray) : xj (.val (.string s)) 1 = true := _root_.id rfl
theorem hs_sl (s : Nat) (xs : List AV) : xj (.sl s xs) 1 = true := _root_.id rfl
theorem hs_msl (l n : Nat) : xj (.msl l n) 1 = true := _root_.id rfl
theorem hs_ptr (x : AV) (d : Nat) : xj (.ptr x d) 1 = true := _root_.id rfl
theorem hs_mp (d : Nat) : xj (.mp d) 1 = true := _root_.id rfl
theorem hs_agg (cs : List AV) (n : Nat) : xj (.agg cs) n = (cs.length == n && cs.all AV.one) := _root_.id rfl
theorem xtcb (x : AV) (xs : List AV) : (x :: xs).all AV.one = (x.one && xs.all AV.one) := _root_.id rfl
theorem xcib : ([] : List AV).all AV.one = true := _root_.id rfl
theorem x8hb (k : IntKind) (n : Int) : AV.one (.val (.int k n)) = true := _root_.id rfl
theorem x1gb (s : ByteArray) : AV.one (.val (.string s)) = true := _root_.id rfl
theorem xwgb : AV.one nilS = true := _root_.id rfl
theorem one_sl (s : Nat) (xs : List AV) : AV.one (.sl s xs) = true := _root_.id rfl
theorem xigb (l n : Nat) : AV.one (.msl l n) = true := _root_.id rfl
theorem one_mp (d : Nat) : AV.one (.mp d) = true := _root_.id rfl
def fillK (v : AV) (place : Nat → Option (Nat × Nat)) (cells : List AV) (rest : List (Nat × AV)) (o : Option (Nat × Nat)) : Option (List AV) := match o with
  | none => none
  | some (off, size) => if xj v size = true ∧ off + size ≤ cells.length then fillA place (splice cells off v.cells) rest else none
theorem xb9 (place : Nat → Option (Nat × Nat)) (cells : List AV) : fillA place cells [] = some cells := _root_.id rfl
theorem xh7 (place : Nat → Option (Nat × Nat)) (cells : List AV) (i : Nat) (v : AV) (rest : List (Nat × AV)) : fillA place cells ((i, v) :: rest) = fillK v place cells rest (place i) := by
  simp only [fillA, fillK]
  cases place i <;> rfl
theorem xj7 (v : AV) (place : Nat → Option (Nat × Nat)) (cells : List AV) (rest : List (Nat × AV)) (off size : Nat) : fillK v place cells rest (some (off, size)) = if xj v size = true ∧ off + size ≤ cells.length then fillA place (splice cells off v.cells) rest else none := _root_.id rfl
theorem x27 (cs : List AV) (off : Nat) (vs : List AV) : splice cs off vs = cs.take off ++ vs ++ cs.drop (off + vs.length) := _root_.id rfl
theorem xp7 (v : Value) : AV.cells (.val v) = [.val v] := _root_.id rfl
theorem xddb (s : Nat) (xs : List AV) : AV.cells (.sl s xs) = [.sl s xs] := _root_.id rfl
theorem x0eb (a : Nat) : AV.cells (.mp a) = [.mp a] := _root_.id rfl
def guardV (v : AV) (w : Bool) (y n : Prop) : Prop :=
  match v with
  | .val (.bool b) => (b = w → y) ∧ (¬ b = w → n)
  | .val _ => n
  | _ => False
theorem xr0 (y n : Prop) : guardV (bool true) true y n = y := by simp [guardV]
theorem xw0 (y n : Prop) : guardV (bool true) false y n = n := by simp [guardV]
theorem xo0 (y n : Prop) : guardV (bool false) true y n = n := by simp [guardV]
theorem xb0 (y n : Prop) : guardV (bool false) false y n = y := by simp [guardV]
def tstR (p : Prop) [Decidable p] : Option (AV × Upds) := some (.val (.bool (decide p)), [])
def brR (b : Bool) : Option (AV × Upds) := some (.val (.bool b), [])
theorem tstR_t : tstR True = some (bool true, []) := _root_.id rfl
theorem tstR_f : tstR False = some (bool false, []) := _root_.id rfl
theorem brR_t : brR true = some (bool true, []) := _root_.id rfl
theorem brR_f : brR false = some (bool false, []) := _root_.id rfl
section
variable (P : Program) (nx0 i : Nat) (op : Op) (d : Option Tmp) (rest : List O1) (T : Nat → AV) (H : Nat → Option AO) (nx : Nat) (K : AS → Prop)
def stepR (x : Option (AV × Upds)) : Prop := Got x fun p => wps1 P nx0 (i + 1) rest ⟨putA T d p.1, applyU H p.2, nx⟩ K
def callR : Prop := Sem1 P op H nx (nx0 + i) (ev T) fun v H' nx' => wps1 P nx0 (i + 1) rest ⟨putA T d v, H', nx'⟩ K
def opR (c : Bool) : Prop := if c = true then callR P nx0 i op d rest T H nx K else stepR P nx0 i d rest T H nx K (evalOp P op H (nx0 + i) (ev T))
def gR (v : AV) (w : Bool) : Prop := guardV v w (opR P nx0 i op d rest T H nx K (isCall op)) (wps1 P nx0 (i + 1) rest ⟨putA T d (.val undef), H, nx⟩ K)
theorem xsdb (s : AS) : wps1 P nx0 i [] s K = K s := _root_.id rfl
theorem xkbb : wps1 P nx0 i (⟨op, d, none⟩ :: rest) ⟨T, H, nx⟩ K = opR P nx0 i op d rest T H nx K (isCall op) := _root_.id rfl
theorem x7ab (g : Tmp) (w : Bool) : wps1 P nx0 i (⟨op, d, some (g, w)⟩ :: rest) ⟨T, H, nx⟩ K = gR P nx0 i op d rest T H nx K (T g) w := _root_.id rfl
theorem opR_t : opR P nx0 i op d rest T H nx K true = callR P nx0 i op d rest T H nx K := _root_.id rfl
theorem opR_f : opR P nx0 i op d rest T H nx K false = stepR P nx0 i d rest T H nx K (evalOp P op H (nx0 + i) (ev T)) := _root_.id rfl
theorem gR_tt : gR P nx0 i op d rest T H nx K (bool true) true = opR P nx0 i op d rest T H nx K (isCall op) := xr0 _ _
theorem gR_ff : gR P nx0 i op d rest T H nx K (bool false) false = opR P nx0 i op d rest T H nx K (isCall op) := xb0 _ _
theorem gR_tf : gR P nx0 i op d rest T H nx K (bool true) false = wps1 P nx0 (i + 1) rest ⟨putA T d (.val undef), H, nx⟩ K := xw0 _ _
theorem gR_ft : gR P nx0 i op d rest T H nx K (bool false) true = wps1 P nx0 (i + 1) rest ⟨putA T d (.val undef), H, nx⟩ K := xo0 _ _
theorem xoeb (w : Bool) : gR P nx0 i op d rest T H nx K (.val undef) w = wps1 P nx0 (i + 1) rest ⟨putA T d (.val undef), H, nx⟩ K := _root_.id rfl
theorem xr8 (v : AV) (us : Upds) : stepR P nx0 i d rest T H nx K (some (v, us)) = wps1 P nx0 (i + 1) rest ⟨putA T d v, applyU H us, nx⟩ K := by simp [stepR, Got]
theorem xx8 : stepR P nx0 i d rest T H nx K none = False := by simp [stepR, Got]
theorem xtab (p : Prop) [Decidable p] : stepR P nx0 i d rest T H nx K (tstR p) = ((p → wps1 P nx0 (i + 1) rest ⟨putA T d (bool true), H, nx⟩ K) ∧ (¬ p → wps1 P nx0 (i + 1) rest ⟨putA T d (bool false), H, nx⟩ K)) := by
  by_cases h : p <;> simp [stepR, Got, tstR, h, applyU]
theorem xn9 (c : Prop) [Decidable c] (x : Option (AV × Upds)) : stepR P nx0 i d rest T H nx K (if c then x else none) = (c ∧ stepR P nx0 i d rest T H nx K x) := by
  by_cases h : c <;> simp [stepR, Got, h]
variable (B : List Nat) (rd : List Bool)
def stepD (x : Option (AV × Upds)) : Prop := Got x fun p => wpsD1 P B rd nx0 (i + 1) rest ⟨putA T d p.1, applyU H p.2, nx⟩ K
def callD : Prop := ∃ v, OpS1 P op (viewD nx0 (B.getD i 0) (rd.getD i false) H) (ev T) (nx0 + i) v ∧ wpsD1 P B rd nx0 (i + 1) rest ⟨putA T d v, H, nx⟩ K
def opD (c : Bool) : Prop := if c = true then callD P nx0 i op d rest T H nx K B rd else stepD P nx0 i d rest T H nx K B rd (evalOp P op (viewD nx0 (B.getD i 0) (rd.getD i false) H) (nx0 + i) (ev T))
def gD (v : AV) (w : Bool) : Prop := guardV v w (opD P nx0 i op d rest T H nx K B rd (isCall op)) (wpsD1 P B rd nx0 (i + 1) rest ⟨putA T d (.val undef), H, nx⟩ K)
theorem xd9 (s : AS) : wpsD1 P B rd nx0 i [] s K = K s := _root_.id rfl
theorem x17 : wpsD1 P B rd nx0 i (⟨op, d, none⟩ :: rest) ⟨T, H, nx⟩ K = opD P nx0 i op d rest T H nx K B rd (isCall op) := _root_.id rfl
theorem x16 (g : Tmp) (w : Bool) : wpsD1 P B rd nx0 i (⟨op, d, some (g, w)⟩ :: rest) ⟨T, H, nx⟩ K = gD P nx0 i op d rest T H nx K B rd (T g) w := _root_.id rfl
theorem opD_t : opD P nx0 i op d rest T H nx K B rd true = callD P nx0 i op d rest T H nx K B rd := _root_.id rfl
theorem opD_f : opD P nx0 i op d rest T H nx K B rd false = stepD P nx0 i d rest T H nx K B rd (evalOp P op (viewD nx0 (B.getD i 0) (rd.getD i false) H) (nx0 + i) (ev T)) := _root_.id rfl
theorem gD_tt : gD P nx0 i op d rest T H nx K B rd (bool true) true = opD P nx0 i op d rest T H nx K B rd (isCall op) := xr0 _ _
theorem gD_ff : gD P nx0 i op d rest T H nx K B rd (bool false) false = opD P nx0 i op d rest T H nx K B rd (isCall op) := xb0 _ _
theorem gD_tf : gD P nx0 i op d rest T H nx K B rd (bool true) false = wpsD1 P B rd nx0 (i + 1) rest ⟨putA T d (.val undef), H, nx⟩ K := xw0 _ _
theorem gD_ft : gD P nx0 i op d rest T H nx K B rd (bool false) true = wpsD1 P B rd nx0 (i + 1) rest ⟨putA T d (.val undef), H, nx⟩ K := xo0 _ _
theorem xgdb (w : Bool) : gD P nx0 i op d rest T H nx K B rd (.val undef) w = wpsD1 P B rd nx0 (i + 1) rest ⟨putA T d (.val undef), H, nx⟩ K := _root_.id rfl
theorem xu8 (v : AV) (us : Upds) : stepD P nx0 i d rest T H nx K B rd (some (v, us)) = wpsD1 P B rd nx0 (i + 1) rest ⟨putA T d v, applyU H us, nx⟩ K := by simp [stepD, Got]
theorem x99 (p : Prop) [Decidable p] : stepD P nx0 i d rest T H nx K B rd (tstR p) = ((p → wpsD1 P B rd nx0 (i + 1) rest ⟨putA T d (bool true), H, nx⟩ K) ∧ (¬ p → wpsD1 P B rd nx0 (i + 1) rest ⟨putA T d (bool false), H, nx⟩ K)) := by
  by_cases h : p <;> simp [stepD, Got, tstR, h, applyU]
theorem x48 (c : Prop) [Decidable c] (x : Option (AV × Upds)) : stepD P nx0 i d rest T H nx K B rd (if c then x else none) = (c ∧ stepD P nx0 i d rest T H nx K B rd x) := by
  by_cases h : c <;> simp [stepD, Got, h]
end
section
variable (P : Program) (nx0 i : Nat) (op : Op) (d : Option Tmp) (rest : List O1) (T : Nat → AV) (H : Nat → Option AO) (nx : Nat) (K : AS → Prop) (V W : List Nat) (VW : List (List Nat × List Nat))
def stepV (x : Option (AV × Upds)) : Prop := Got x fun p => okL W (nx0 + i) p.2 ∧ wpsV1 P nx0 (i + 1) rest VW ⟨putA T d p.1, applyU H p.2, nx⟩ K
def callV : Prop := ∃ v us, OpSL P op (viewL V W H) (ev T) (nx0 + i) v us ∧ okL W (nx0 + i) us ∧ wpsV1 P nx0 (i + 1) rest VW ⟨putA T d v, applyU H us, nx⟩ K
def opV (c : Bool) : Prop := if c = true then callV P nx0 i op d rest T H nx K V W VW else stepV P nx0 i d rest T H nx K W VW (evalOp P op (viewL V W H) (nx0 + i) (ev T))
theorem xz9 (s : AS) : wpsV1 P nx0 i [] VW s K = K s := by cases VW <;> rfl
theorem xk7 : wpsV1 P nx0 i (⟨op, d, none⟩ :: rest) ((V, W) :: VW) ⟨T, H, nx⟩ K = opV P nx0 i op d rest T H nx K V W VW (isCall op) := _root_.id rfl
theorem opV_t : opV P nx0 i op d rest T H nx K V W VW true = callV P nx0 i op d rest T H nx K V W VW := _root_.id rfl
theorem opV_f : opV P nx0 i op d rest T H nx K V W VW false = stepV P nx0 i d rest T H nx K W VW (evalOp P op (viewL V W H) (nx0 + i) (ev T)) := _root_.id rfl
theorem x97 (v : AV) (us : Upds) : stepV P nx0 i d rest T H nx K W VW (some (v, us)) = (okL W (nx0 + i) us ∧ wpsV1 P nx0 (i + 1) rest VW ⟨putA T d v, applyU H us, nx⟩ K) := by simp [stepV, Got]
end
theorem xsbb (V W : List Nat) (H : Nat → Option AO) (l : Nat) : viewL V W H l = if l ∈ V ∨ l ∈ W then H l else none := _root_.id rfl
theorem mem_c (l a : Nat) (A : List Nat) : (l ∈ a :: A) = (l = a ∨ l ∈ A) := propext List.mem_cons
theorem mem_n (l : Nat) : (l ∈ ([] : List Nat)) = False := by simp
theorem xugb (W : List Nat) (new : Nat) : okL W new [] = True := _root_.id rfl
theorem xkeb (W : List Nat) (new l : Nat) (o : Option AO) (us : Upds) : okL W new ((l, o) :: us) = ((l = new ∨ l ∈ W) ∧ okL W new us) := _root_.id rfl
def tbK (b : Bool) (p : Prop) : Prop := if b = true then True else p
theorem tbK_t (p : Prop) : tbK true p = True := by simp [tbK]
theorem tbK_f (p : Prop) : tbK false p = p := by simp [tbK]
theorem xs9 (nx i : Nat) (B : List Nat) (dn : List (List Nat × List Nat)) : meetA nx i B dn [] = True := by cases B <;> rfl
theorem xf7 (nx i b : Nat) (B : List Nat) (dn : List (List Nat × List Nat)) (p : List Nat × List Nat) (r : List (List Nat × List Nat)) : meetA nx i (b :: B) dn (p :: r) = (meetR nx i b p.1 p.2 0 dn ∧ meetA nx (i + 1) B (dn ++ [p]) r) := _root_.id rfl
theorem xbbb (nx i b : Nat) (V W : List Nat) (j : Nat) : meetR nx i b V W j [] = True := _root_.id rfl
theorem xi8 (nx i b : Nat) (V W : List Nat) (j : Nat) (p : List Nat × List Nat) (r : List (List Nat × List Nat)) : meetR nx i b V W j (p :: r) = (tbK (b.testBit j) ((dis ((nx + i) :: W) p.1 ∧ dis ((nx + i) :: W) p.2) ∧ dis ((nx + j) :: p.2) V ∧ dis ((nx + j) :: p.2) W) ∧ meetR nx i b V W (j + 1) r) := _root_.id rfl
theorem xefb (B : List Nat) : dis [] B = True := _root_.id rfl
theorem x1bb (a : Nat) (A B : List Nat) : dis (a :: A) B = (ne1 a B ∧ dis A B) := _root_.id rfl
theorem xjib (a : Nat) : ne1 a [] = True := _root_.id rfl
theorem x0db (a b : Nat) (B : List Nat) : ne1 a (b :: B) = (a ≠ b ∧ ne1 a B) := _root_.id rfl
theorem vw_app (a : List Nat × List Nat) (l r : List (List Nat × List Nat)) : (a :: l) ++ r = a :: (l ++ r) := _root_.id rfl
theorem xdib (r : List (List Nat × List Nat)) : [] ++ r = r := _root_.id rfl
theorem xu9 (nx b : Nat) (H : Nat → Option AO) : viewD nx b false H = fun _ => none := _root_.id rfl
theorem x7db (nx b : Nat) (H : Nat → Option AO) (l : Nat) : viewD nx b true H l = if l < nx ∨ b.testBit (l - nx) = true then H l else none := _root_.id rfl
theorem x1ab (T : Nat → AV) (d : Tmp) (v : AV) : putA T (some d) v = upd T d v := _root_.id rfl
theorem x6ab (T : Nat → AV) (v : AV) : putA T none v = T := _root_.id rfl
theorem xu7 (H : Nat → Option AO) : applyU H [] = H := _root_.id rfl
theorem xb6 (H : Nat → Option AO) (l : Nat) (o : Option AO) (us : Upds) : applyU H ((l, o) :: us) = applyU (upd H l o) us := _root_.id rfl
theorem ev_tmp (T : Nat → AV) (t : Tmp) : ev T (.tmp t) = T t := _root_.id rfl
theorem xrdb (T : Nat → AV) (v : Value) : ev T (.const v) = x8g v := _root_.id rfl
theorem xjhb (T : Nat → AV) (f : FuncId) : ev T (.func f) = .fn (.func f) [] [] := _root_.id rfl
theorem xv5 (k : IntKind) (n : Int) : x8g (.int k n) = .val (.int k n) := _root_.id rfl
theorem xu4 (b : Bool) : x8g (.bool b) = .val (.bool b) := _root_.id rfl
theorem xg5 (s : ByteArray) : x8g (.string s) = .val (.string s) := _root_.id rfl
theorem xn1 (a : Option Addr) (l c : Nat) : x8g (.slice a l c) = .val (.slice a l c) := _root_.id rfl
theorem xd6 : x8g (.map none) = .val (.map none) := _root_.id rfl
theorem x15 : x8g (.pointer none) = .val (.pointer none) := _root_.id rfl
section
variable (P : Program) (V : Nat → Option AO) (new : Nat) (ρ : Operand → AV)
theorem E_move (x : Operand) : evalOp P (.move x) V new ρ = some (ρ x, []) := _root_.id rfl
theorem x5cb (x : Operand) : evalOp P (.assign x) V new ρ = some (ρ x, []) := _root_.id rfl
def pickK (c x y : AV) : Option (AV × Upds) := match c with
  | .val (.bool t) => some (if t = true then x else y, [])
  | _ => none
theorem E_pick (c x y : Operand) : evalOp P (.pick c x y) V new ρ = pickK (ρ c) (ρ x) (ρ y) := by
  simp only [evalOp, xyd, pickK]
  generalize ρ c = z
  cases z with
  | val v => cases v <;> rfl
  | _ => rfl
theorem x7fb (x y : AV) : pickK (bool true) x y = some (x, []) := _root_.id rfl
theorem xyhb (x y : AV) : pickK (bool false) x y = some (y, []) := _root_.id rfl
def allocK (new T : Nat) : Option (Bool × Nat) → Option AV → Option (AV × Upds)
  | some (_, n), some z => if xj z n = true then some (.loc new n 0 0, [(new, some (.row T n [z]))]) else none
  | _, _ => none
theorem xxk (T : TypeId) : evalOp P (.alloc T) V new ρ = allocK new T (aggN P T) (zeroOf P T) := by
  simp only [evalOp, xfm]; rfl
theorem x5f (T : Nat) (b : Bool) (n : Nat) (z : AV) : allocK new T (some (b, n)) (some z) = if xj z n = true then some (.loc new n 0 0, [(new, some (.row T n [z]))]) else none := _root_.id rfl
def boxK (new T : Nat) (x : AV) : Option (Bool × Nat) → Option (AV × Upds)
  | some (_, n) => if xj x n = true then some (.loc new n 0 0, [(new, some (.row T n [x]))]) else none
  | none => none
theorem E_box (T : TypeId) (x : Operand) : evalOp P (.box T x) V new ρ = boxK new T (ρ x) (aggN P T) := by
  simp only [evalOp, xvp, boxK]; split <;> simp_all
theorem x0d (T : Nat) (x : AV) (b : Bool) (n : Nat) : boxK new T x (some (b, n)) = if xj x n = true then some (.loc new n 0 0, [(new, some (.row T n [x]))]) else none := _root_.id rfl
def x8d (P : Program) (e len new : Nat) (ps : List (Nat × AV)) : Option (Bool × Nat) → Option AV → Option (AV × Upds)
  | some (_, n), some z => if xj z n = true ∧ len * n ≤ 16777216 ∧ 0 < n then (setsA n (List.replicate len z) ps).map fun xs => (.msl new len, [(new, some (.row e n xs))]) else none
  | _, _ => none
theorem x8e (T len : Nat) (parts : Array (Nat × Operand)) (e : TypeId) (he : xab P T = some e) :
    evalOp P (.buildSlice T len parts) V new ρ = x8d P e len new (parts.toList.map fun p => (p.1, ρ p.2)) (aggN P e) (zeroOf P e) := by
  simp only [evalOp, xdh, he, x8d]; rfl
theorem E_load (T : TypeId) (a : Operand) : evalOp P (.load T a) V new ρ = (xxc P T V (ρ a)).map fun v => (v, []) := _root_.id rfl
theorem x5ab (T : TypeId) : evalOp P (.makeMap T none) V new ρ = x3g P T new := _root_.id rfl
theorem x4bb (T : TypeId) (m k : Operand) (c : Bool) : evalOp P (.lookup T m k c) V new ρ = (xfe P T c V (ρ m) (ρ k)).map fun v => (v, []) := _root_.id rfl
theorem xy5 (T : TypeId) (m k x : Operand) : evalOp P (.mapUpdate T m k x) V new ρ = (xud P T V (ρ m) (ρ k) (ρ x)).map fun us => (.val undef, us) := _root_.id rfl
def lookK (c : Bool) (d : TypeDesc) (z : Option AV) (kv : Value) (o : Option AO) : Option AV := match o with
  | some (.map ks vs) => if isKeyB d kv = true ∧ ks.all (isKeyB d) = true then
        match ks.findIdx? (keyEq kv) with
        | some j => (vs[j]?).map fun v => xge c v true
        | none => z.map fun z => xge c z false
      else none
  | _ => none
theorem x4fb {T et : TypeId} {d : TypeDesc} (h : mapOf P T = some (d, et)) (c : Bool) (l : Nat) (kv : Value) : xfe P T c V (.mp l) (.val kv) = lookK c d (zeroOf P et) kv (V l) := by
  simp only [xfe, h, lookK]
  cases V l with
  | none => rfl
  | some o => cases o <;> rfl
def mupdK (d : TypeDesc) (kv : Value) (x : AV) (l : Nat) (o : Option AO) : Option Upds := match o with
  | some (.map ks vs) => if isKeyB d kv = true ∧ ks.all (isKeyB d) = true then
        match ks.findIdx? (keyEq kv) with
        | some j => some [(l, some (.map ks (vs.set j x)))]
        | none => some [(l, some (.map (ks ++ [kv]) (vs ++ [x])))]
      else none
  | _ => none
theorem x9gb {T et : TypeId} {d : TypeDesc} (h : mapOf P T = some (d, et)) (l : Nat) (kv : Value) (x : AV) : xud P T V (.mp l) (.val kv) x = mupdK d kv x l (V l) := by
  simp only [xud, h, mupdK]
  cases V l with
  | none => rfl
  | some o => cases o <;> rfl
theorem x1fb (T : TypeId) (a x : Operand) : evalOp P (.store T a x) V new ρ = (x4b P T V (ρ a) (ρ x)).map fun us => (.val undef, us) := _root_.id rfl
theorem xa5 (T : TypeId) (l c : Operand) : evalOp P (.makeSlice T l c) V new ρ = xke P T (ρ l) (ρ c) new := _root_.id rfl
theorem x3eb (s x : Operand) (t : TypeId) : evalOp P (.call (Call.mk (.builtin .append) #[s, x] #[t, t])) V new ρ = xuc P t V (ρ s) (ρ x) new := by
  simp [evalOp]
theorem E_len (x : Operand) (T : TypeId) : evalOp P (.call (Call.mk (.builtin .len) #[x] #[T])) V new ρ = (xzb P T (ρ x)).map fun v => (v, []) := by
  simp [evalOp, xyd]
theorem xrgb (T : TypeId) (parts : Array (Nat × Operand)) : evalOp P (.build T parts) V new ρ = (x5b P T (parts.toList.map fun p => (p.1, ρ p.2))).map fun v => (v, []) := _root_.id rfl
def nilK (x : AV) : Option (AV × Upds) := match x with
  | .loc l sz i off => some (.loc l sz i off, [])
  | .ptr y off => some (.ptr y off, [])
  | .fn (.func f) a b => some (.fn (.func f) a b, [])
  | _ => none
theorem xh8 (x : Operand) : evalOp P (.nilCheck x) V new ρ = nilK (ρ x) := by
  simp only [evalOp, xyd, nilK]
  generalize ρ x = z
  cases z with
  | val v => rfl
  | fn f a b => cases f <;> rfl
  | _ => rfl
theorem xycb (l sz i off : Nat) : nilK (.loc l sz i off) = some (.loc l sz i off, []) := _root_.id rfl
theorem x6bb (y : AV) (off : Nat) : nilK (.ptr y off) = some (.ptr y off, []) := _root_.id rfl
def binK (P : Program) (op : BinOp) (T : TypeId) (x y : AV) : Option (AV × Upds) := match y with
  | .val .nilIface => none
  | v => (xlc P op T x v).map fun v => (v, [])
theorem E_bin (op : BinOp) (T yT : TypeId) (x : Operand) (t : Tmp) : evalOp P (.binOp op T x (.tmp t) yT) V new ρ = binK P op T (ρ x) (ρ (.tmp t)) := by
  simp only [evalOp, xyd, binK]
  generalize ρ (.tmp t) = z
  cases z with
  | val v => cases v <;> rfl
  | _ => rfl
theorem E_binI (op : BinOp) (T yT : TypeId) (x : Operand) (k : IntKind) (n : Int) : evalOp P (.binOp op T x (.const (.int k n)) yT) V new ρ = binK P op T (ρ x) (ρ (.const (.int k n))) := by
  simp only [evalOp, xyd, binK]
  generalize ρ (.const (.int k n)) = z
  cases z with
  | val v => cases v <;> rfl
  | _ => rfl
theorem E_binS (op : BinOp) (T yT : TypeId) (x : Operand) (s : ByteArray) : evalOp P (.binOp op T x (.const (.string s)) yT) V new ρ = binK P op T (ρ x) (ρ (.const (.string s))) := by
  simp only [evalOp, xyd, binK]
  generalize ρ (.const (.string s)) = z
  cases z with
  | val v => cases v <;> rfl
  | _ => rfl
section
variable (k : IntKind) (a b : Int) (T : TypeId)
theorem B_add : binK P .add T (.val (.int k a)) (.val (.int k b)) = some (.val (.int k (k.wrap (a + b))), []) := by simp [binK, xlc, xdf]
theorem B_sub : binK P .sub T (.val (.int k a)) (.val (.int k b)) = some (.val (.int k (k.wrap (a - b))), []) := by simp [binK, xlc, xdf]
theorem B_quo : binK P .quo T (.val (.int k a)) (.val (.int k b)) = if b = 0 then none else some (.val (.int k (k.wrap (a.tdiv b))), []) := by
  by_cases h : b = 0 <;> simp [binK, xlc, xdf, h]
theorem B_rem : binK P .rem T (.val (.int k a)) (.val (.int k b)) = if b = 0 then none else some (.val (.int k (a.tmod b)), []) := by
  by_cases h : b = 0 <;> simp [binK, xlc, xdf, h]
def bAnd (k : IntKind) (a b : Int) : Int := k.wrap (BitVec.ofInt k.bits a &&& BitVec.ofInt k.bits b).toNat
theorem B_and : binK P .and T (.val (.int k a)) (.val (.int k b)) = some (.val (.int k (bAnd k a b)), []) := by simp [binK, xlc, xdf, bAnd]
theorem B_eql : binK P .eql T (.val (.int k a)) (.val (.int k b)) = tstR (a = b) := by simp [binK, xlc, xdf, tstR]; rfl
theorem B_neq : binK P .neq T (.val (.int k a)) (.val (.int k b)) = tstR (¬ a = b) := by
  simp only [binK, xlc, xdf, tstR]
  by_cases h : a = b <;> simp [h]
theorem B_lss : binK P .lss T (.val (.int k a)) (.val (.int k b)) = tstR (a < b) := by simp [binK, xlc, xdf, tstR]
theorem B_leq : binK P .leq T (.val (.int k a)) (.val (.int k b)) = tstR (a ≤ b) := by simp [binK, xlc, xdf, tstR]
theorem B_gtr : binK P .gtr T (.val (.int k a)) (.val (.int k b)) = tstR (b < a) := by simp [binK, xlc, xdf, tstR]
theorem B_geq : binK P .geq T (.val (.int k a)) (.val (.int k b)) = tstR (b ≤ a) := by simp [binK, xlc, xdf, tstR]
variable (s t : ByteArray)
theorem xio : (s == t) = decide (s = t) := by
  rw [beq_toListBytes, ByteArray.toList_eq, ByteArray.toList_eq]
  obtain ⟨⟨x⟩⟩ := s
  obtain ⟨⟨y⟩⟩ := t
  by_cases h : x = y
  · subst h; simp
  · have : ¬ (ByteArray.mk ⟨x⟩ = ByteArray.mk ⟨y⟩) := fun e => h (by injection e with e; injection e)
    simp [h, this]
theorem S_eql : binK P .eql T (.val (.string s)) (.val (.string t)) = tstR (s = t) := by simp [binK, xlc, xmp, xio, tstR]
theorem S_neq : binK P .neq T (.val (.string s)) (.val (.string t)) = tstR (¬ s = t) := by simp [binK, xlc, xmp, xio, tstR]
theorem S_add : binK P .add T (.val (.string s)) (.val (.string t)) = if s.size + t.size ≤ 9223372036854775807 then some (.val (.string (s ++ t)), []) else none := by
  by_cases h : s.size + t.size ≤ 9223372036854775807 <;> simp [binK, xlc, xmp, h]
end
def notK (x : AV) : Option (AV × Upds) := match x with
  | .val (.bool b) => some (.val (.bool !b), [])
  | _ => none
theorem E_not (T : TypeId) (x : Operand) : evalOp P (.unOp .not T x) V new ρ = notK (ρ x) := by
  simp only [evalOp, xyd, notK]
  generalize ρ x = z
  cases z with
  | val v => cases v <;> rfl
  | _ => rfl
theorem notK_b (b : Bool) : notK (bool b) = some (bool !b, []) := _root_.id rfl
theorem x94 (T : TypeId) (x : Operand) (f : Nat) : evalOp P (.fieldAddr T x f) V new ρ = (xh P T f (ρ x)).map fun v => (v, []) := _root_.id rfl
theorem xfhb (T : TypeId) (x : Operand) (f : Nat) : evalOp P (.field T x f) V new ρ = (x6e P T f (ρ x)).map fun v => (v, []) := _root_.id rfl
theorem xu5 (T : TypeId) (x i : Operand) : evalOp P (.indexAddr T x i) V new ρ = (xdb P T (ρ x) (ρ i)).map fun v => (v, []) := _root_.id rfl
theorem x4gb (T : TypeId) (x i : Operand) : evalOp P (.index T x i) V new ρ = (x3i P T (ρ x) (ρ i)).map fun v => (v, []) := _root_.id rfl
theorem xueb (ρ : Operand → AV) (x : Operand) : opt ρ (some x) = some (ρ x) := _root_.id rfl
theorem xjdb (ρ : Operand → AV) : opt ρ none = none := _root_.id rfl
theorem x7gb (T : TypeId) (x : Operand) (lo hi mx : Option Operand) : evalOp P (.slice T x lo hi mx) V new ρ = (x1d P T (ρ x) (opt ρ lo) (opt ρ hi) (opt ρ mx)).map fun v => (v, []) := _root_.id rfl
theorem xc7 (f : Fn) (a b : List Operand) : evalOp P (.makeFunc f a.toArray b.toArray) V new ρ = some (.fn f (a.map ρ) (b.map ρ), []) := _root_.id rfl
def xj4 (x : AV) (i : Nat) : Option AV := match x with
  | .tup vs => vs[i]?
  | _ => none
theorem xk9 (x : Operand) (i : Nat) : evalOp P (.extract x i) V new ρ = (xj4 (ρ x) i).map fun v => (v, []) := _root_.id rfl
theorem xa4 (vs : List AV) (i : Nat) : xj4 (.tup vs) i = vs[i]? := _root_.id rfl
end
section
variable (P : Program)
theorem xw {T f o ft n : Nat} {b : Bool} (h : xy P T f = some (o, ft)) (h2 : aggN P ft = some (b, n)) (hn : n ≠ 0) (l sz i off : Nat) : xh P T f (.loc l sz i off) = some (.loc l sz i (off + o)) := by
  simp [xh, h, h2, hn]
theorem xed {T f o ft n : Nat} {b : Bool} (h : xy P T f = some (o, ft)) (h2 : aggN P ft = some (b, n)) (hn : n ≠ 0) (y : AV) (off : Nat) : xh P T f (.ptr y off) = some (.ptr y (off + o)) := by
  simp [xh, h, h2, hn]
theorem xzc {T e s : Nat} {b : Bool} (h : xab P T = some e) (h2 : aggN P e = some (b, s)) (xs : List AV) (k : IntKind) (n : Int) :
    xdb P T (.sl s xs) (.val (.int k n)) = if 0 ≤ n then (xs[n.toNat]?).map fun z => .ptr z 0 else none := by
  simp [xdb, h, h2]
theorem xrg {T e s : Nat} {b : Bool} (h : xab P T = some e) (h2 : aggN P e = some (b, s)) (l len : Nat) (k : IntKind) (n : Int) :
    xdb P T (.msl l len) (.val (.int k n)) = if 0 ≤ n ∧ n < len then some (.loc l s n.toNat 0) else none := by
  simp [xdb, h, h2]
theorem xa9 {T : Nat} (h : kindOf P T = .str) (s : ByteArray) (k : IntKind) (n : Int) : x3i P T (.val (.string s)) (.val (.int k n)) = if 0 ≤ n then (s[n.toNat]?).map fun b => u8 b else none := by
  simp [x3i, h]
theorem len_sl {T e : Nat} (h : xab P T = some e) (sz : Nat) (xs : List AV) : xzb P T (.sl sz xs) = some (int xs.length) := by simp [xzb, h]
theorem x9m {T e : Nat} (h : xab P T = some e) (l n : Nat) : xzb P T (.msl l n) = some (int n) := by simp [xzb, h]
theorem xgfb {T e : Nat} (h : xab P T = some e) : xzb P T nilS = some (int 0) := by simp [xzb, h]
theorem x2gb {T : Nat} (h : kindOf P T = .str) (s : ByteArray) : xzb P T (.val (.string s)) = some (int s.size) := by simp [xzb, h]
theorem xhcb (T : TypeId) (V : Nat → Option AO) (y : AV) (off : Nat) : xxc P T V (.ptr y off) = evalLd P T y off := _root_.id rfl
def rowAt (o : Option AO) (sz i : Nat) : Option AV := match o with
  | some (.row _ sz' xs) => if sz = sz' then xs[i]? else none
  | _ => none
theorem xedb (T : TypeId) (V : Nat → Option AO) (l sz i off : Nat) : xxc P T V (.loc l sz i off) = (rowAt (V l) sz i).bind fun y => evalLd P T y off := by
  simp only [xxc, rowAt]
  cases V l with
  | none => rfl
  | some o =>
    cases o with
    | row T' sz' xs =>
      by_cases e : sz = sz'
      · simp only [e, if_true]; cases xs[i]? <;> rfl
      · simp [e]
    | map ks vs => rfl
    | siter s p => rfl
    | mapb bs ck ks vs => rfl
theorem x4ab (T sz i : Nat) (xs : List AV) : rowAt (some (.row T sz xs)) sz i = xs[i]? := by simp [rowAt]
theorem ld_agg {T n : Nat} (h : aggN P T = some (true, n)) (y : AV) (off : Nat) : evalLd P T y off = ldAgg y off n := by simp [evalLd, h]
theorem ld_one {T n : Nat} (h : aggN P T = some (false, n)) (y : AV) (off : Nat) : evalLd P T y off = ldOne y off := by simp [evalLd, h]
theorem x65 (cs : List AV) (n : Nat) (h : cs.length = n) : ldAgg (.agg cs) 0 n = some (.agg cs) := by simp [ldAgg, h]
theorem x59 (cs : List AV) (off : Nat) : ldOne (.agg cs) off = cs[off]? := _root_.id rfl
theorem x79 (k : IntKind) (n : Int) : ldOne (.val (.int k n)) 0 = some (.val (.int k n)) := _root_.id rfl
theorem xi7 (b : Bool) : ldOne (.val (.bool b)) 0 = some (.val (.bool b)) := _root_.id rfl
theorem xy9 (b : ByteArray) : ldOne (.val (.string b)) 0 = some (.val (.string b)) := _root_.id rfl
theorem xj9 (s n : Nat) : ldOne (.msl s n) 0 = some (.msl s n) := _root_.id rfl
theorem x19 (x : AV) (d : Nat) : ldOne (.ptr x d) 0 = some (.ptr x d) := _root_.id rfl
def rowT (o : Option AO) (sz i : Nat) : Option (Nat × List AV × AV) := match o with
  | some (.row T sz' xs) => if sz = sz' then (xs[i]?).map fun x => (T, xs, x) else none
  | _ => none
theorem xcd {T n : Nat} {b : Bool} (h : aggN P T = some (b, n)) (V : Nat → Option AO) (l sz i off : Nat) (v : AV) :
    x4b P T V (.loc l sz i off) v = if xj v n = true then (rowT (V l) sz i).bind fun p => (stAV p.2.2 off v).map fun x' => [(l, some (.row p.1 sz (p.2.1.set i x')))] else none := by
  unfold x4b rowT
  simp only [h]
  split
  · cases V l with
    | none => rfl
    | some o =>
      cases o with
      | row T' sz' xs =>
        by_cases e : sz = sz'
        · subst e
          simp only [if_true]
          cases xs[i]? <;> rfl
        · simp [e]
      | map ks vs => rfl
      | siter s p => rfl
      | mapb bs ck ks vs => rfl
  · rfl
theorem xkcb (T sz i : Nat) (xs : List AV) : rowT (some (.row T sz xs)) sz i = (xs[i]?).map fun x => (T, xs, x) := by simp [rowT]
theorem xl8 {α β : Type} (a : α) (f : α → Option β) : (some a).bind f = f a := _root_.id rfl
theorem x5bb (cs vs : List AV) (h : vs.length = cs.length) : stAV (.agg cs) 0 (.agg vs) = some (.agg vs) := by simp [stAV, h]
end
end Go.Proofs.YtfkgckbdknpcnaaGreatDoor.AL

