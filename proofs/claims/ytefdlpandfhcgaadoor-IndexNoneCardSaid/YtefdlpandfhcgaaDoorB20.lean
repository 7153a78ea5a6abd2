/- A law of the given program is proved: part 20 of 51. -/
import Derived.Test.YtefdlpandfhcgaaDoorB19
set_option linter.all false
/- AL: the evaluator's equations, in the forms that the walks' simp uses. -/
set_option linter.unusedSimpArgs false
namespace Go.Proofs.YtefdlpandfhcgaaDoor.AL
abbrev int (n : Int) : AV := .val (.int .i64 n)
abbrev str (s : ByteArray) : AV := .val (.string s)
abbrev bool (b : Bool) : AV := .val (.bool b)
abbrev nilS : AV := .val (.slice none 0 0)
abbrev u8 (b : UInt8) : AV := .val (.int .u8 (b.toNat : Int))
theorem argT_0 (x : AV) (xs : List AV) : argT (x :: xs) 0 = x := _root_.id rfl
theorem argT_1 (x y : AV) (xs : List AV) : argT (x :: y :: xs) 1 = y := _root_.id rfl
theorem argT_2 (x y z : AV) (xs : List AV) : argT (x :: y :: z :: xs) 2 = z := _root_.id rfl
theorem hs_int (k : IntKind) (n : Int) : xi (.val (.int k n)) 1 = true := _root_.id rfl
theorem xx6 (b : Bool) : xi (.val (.bool b)) 1 = true := _root_.id rfl
theorem hs_str (s : ByteArray) : xi (.val (.string s)) 1 = true := _root_.id rfl
theorem hs_nil : xi nilS 1 = true := _root_.id rfl
theorem hs_msl (l n : Nat) : xi (.msl l n) 1 = true := _root_.id rfl
theorem hs_ptr (x : AV) (d : Nat) : xi (.ptr x d) 1 = true := _root_.id rfl
theorem hs_mp (d : Nat) : xi (.mp d) 1 = true := _root_.id rfl
theorem hs_agg (cs : List AV) (n : Nat) : xi (.agg cs) n = (cs.length == n && cs.all AV.one) := _root_.id rfl
theorem x12 (x : AV) (xs : List AV) : (x :: xs).all AV.one = (x.one && xs.all AV.one) := _root_.id rfl
theorem xu6 : ([] : List AV).all AV.one = true := _root_.id rfl
theorem xe5 (k : IntKind) (n : Int) : AV.one (.val (.int k n)) = true := _root_.id rfl
theorem xb6 (s : ByteArray) : AV.one (.val (.string s)) = true := _root_.id rfl
theorem xv6 : AV.one nilS = true := _root_.id rfl
theorem one_sl (s : Nat) (xs : List AV) : AV.one (.sl s xs) = true := _root_.id rfl
theorem x95 (l n : Nat) : AV.one (.msl l n) = true := _root_.id rfl
theorem one_mp (d : Nat) : AV.one (.mp d) = true := _root_.id rfl
def fillK (v : AV) (place : Nat → Option (Nat × Nat)) (cells : List AV) (rest : List (Nat × AV)) (o : Option (Nat × Nat)) : Option (List AV) := match o with
  | none => none
  | some (off, size) => if xi v size = true ∧ off + size ≤ cells.length then fillA place (splice cells off v.cells) rest else none
theorem xm0 (place : Nat → Option (Nat × Nat)) (cells : List AV) : fillA place cells [] = some cells := _root_.id rfl
theorem xpw (place : Nat → Option (Nat × Nat)) (cells : List AV) (i : Nat) (v : AV) (rest : List (Nat × AV)) : fillA place cells ((i, v) :: rest) = fillK v place cells rest (place i) := by
  simp only [fillA, fillK]
  cases place i <;> rfl
theorem x4w (v : AV) (place : Nat → Option (Nat × Nat)) (cells : List AV) (rest : List (Nat × AV)) (off size : Nat) : fillK v place cells rest (some (off, size)) = if xi v size = true ∧ off + size ≤ cells.length then fillA place (splice cells off v.cells) rest else none := _root_.id rfl
theorem xqw (cs : List AV) (off : Nat) (vs : List AV) : splice cs off vs = cs.take off ++ vs ++ cs.drop (off + vs.length) := _root_.id rfl
theorem xjw (v : Value) : AV.cells (.val v) = [.val v] := _root_.id rfl
theorem xs3 (a : Nat) : AV.cells (.mp a) = [.mp a] := _root_.id rfl
def guardV (v : AV) (w : Bool) (y n : Prop) : Prop :=
  match v with
  | .val (.bool b) => (b = w → y) ∧ (¬ b = w → n)
  | .val _ => n
  | _ => False
theorem x5r (y n : Prop) : guardV (bool true) true y n = y := by simp [guardV]
theorem xqr (y n : Prop) : guardV (bool true) false y n = n := by simp [guardV]
theorem x4r (y n : Prop) : guardV (bool false) true y n = n := by simp [guardV]
theorem xur (y n : Prop) : guardV (bool false) false y n = y := by simp [guardV]
def tstR (p : Prop) [Decidable p] : Option (AV × Upds) := some (.val (.bool (decide p)), [])
def brR (b : Bool) : Option (AV × Upds) := some (.val (.bool b), [])
theorem tstR_t : tstR True = some (bool true, []) := _root_.id rfl
theorem tstR_f : tstR False = some (bool false, []) := _root_.id rfl
theorem brR_t : brR true = some (bool true, []) := _root_.id rfl
theorem brR_f : brR false = some (bool false, []) := _root_.id rfl
section
variable (P : Program) (nx0 i : Nat) (op : Op) (d : Option Tmp) (rest : List O1) (T : Nat → AV) (H : Nat → Option AO) (nx : Nat) (K : AS → Prop)
def stepR (x : Option (AV × Upds)) : Prop := Got x fun p => wps1 P nx0 (i + 1) rest ⟨putA T d p.1, applyU H p.2, nx⟩ K
def callR : Prop := Sem1 P op H nx (nx0 + i) (ev T) fun v H' nx' => wps1 P nx0 (i + 1) rest ⟨putA T d v, H', nx'⟩ K
def opR (c : Bool) : Prop := if c = true then callR P nx0 i op d rest T H nx K else stepR P nx0 i d rest T H nx K (evalOp P op H (nx0 + i) (ev T))
def gR (v : AV) (w : Bool) : Prop := guardV v w (opR P nx0 i op d rest T H nx K (isCall op)) (wps1 P nx0 (i + 1) rest ⟨putA T d (.val undef), H, nx⟩ K)
theorem x42 (s : AS) : wps1 P nx0 i [] s K = K s := _root_.id rfl
theorem x4z : wps1 P nx0 i (⟨op, d, none⟩ :: rest) ⟨T, H, nx⟩ K = opR P nx0 i op d rest T H nx K (isCall op) := _root_.id rfl
theorem xvy (g : Tmp) (w : Bool) : wps1 P nx0 i (⟨op, d, some (g, w)⟩ :: rest) ⟨T, H, nx⟩ K = gR P nx0 i op d rest T H nx K (T g) w := _root_.id rfl
theorem opR_t : opR P nx0 i op d rest T H nx K true = callR P nx0 i op d rest T H nx K := _root_.id rfl
theorem opR_f : opR P nx0 i op d rest T H nx K false = stepR P nx0 i d rest T H nx K (evalOp P op H (nx0 + i) (ev T)) := _root_.id rfl
theorem gR_tt : gR P nx0 i op d rest T H nx K (bool true) true = opR P nx0 i op d rest T H nx K (isCall op) := x5r _ _
theorem gR_ff : gR P nx0 i op d rest T H nx K (bool false) false = opR P nx0 i op d rest T H nx K (isCall op) := xur _ _
theorem gR_tf : gR P nx0 i op d rest T H nx K (bool true) false = wps1 P nx0 (i + 1) rest ⟨putA T d (.val undef), H, nx⟩ K := xqr _ _
theorem gR_ft : gR P nx0 i op d rest T H nx K (bool false) true = wps1 P nx0 (i + 1) rest ⟨putA T d (.val undef), H, nx⟩ K := x4r _ _
theorem x82 (w : Bool) : gR P nx0 i op d rest T H nx K (.val undef) w = wps1 P nx0 (i + 1) rest ⟨putA T d (.val undef), H, nx⟩ K := _root_.id rfl
theorem xkw (v : AV) (us : Upds) : stepR P nx0 i d rest T H nx K (some (v, us)) = wps1 P nx0 (i + 1) rest ⟨putA T d v, applyU H us, nx⟩ K := by simp [stepR, Got]
theorem xxy (p : Prop) [Decidable p] : stepR P nx0 i d rest T H nx K (tstR p) = ((p → wps1 P nx0 (i + 1) rest ⟨putA T d (bool true), H, nx⟩ K) ∧ (¬ p → wps1 P nx0 (i + 1) rest ⟨putA T d (bool false), H, nx⟩ K)) := by
  by_cases h : p <;> simp [stepR, Got, tstR, h, applyU]
theorem xkz (c : Prop) [Decidable c] (x : Option (AV × Upds)) : stepR P nx0 i d rest T H nx K (if c then x else none) = (c ∧ stepR P nx0 i d rest T H nx K x) := by
  by_cases h : c <;> simp [stepR, Got, h]
variable (B : List Nat) (rd : List Bool)
def stepD (x : Option (AV × Upds)) : Prop := Got x fun p => wpsD1 P B rd nx0 (i + 1) rest ⟨putA T d p.1, applyU H p.2, nx⟩ K
def callD : Prop := ∃ v, OpS1 P op (viewD nx0 (B.getD i 0) (rd.getD i false) H) (ev T) (nx0 + i) v ∧ wpsD1 P B rd nx0 (i + 1) rest ⟨putA T d v, H, nx⟩ K
def opD (c : Bool) : Prop := if c = true then callD P nx0 i op d rest T H nx K B rd else stepD P nx0 i d rest T H nx K B rd (evalOp P op (viewD nx0 (B.getD i 0) (rd.getD i false) H) (nx0 + i) (ev T))
def gD (v : AV) (w : Bool) : Prop := guardV v w (opD P nx0 i op d rest T H nx K B rd (isCall op)) (wpsD1 P B rd nx0 (i + 1) rest ⟨putA T d (.val undef), H, nx⟩ K)
theorem xb0 (s : AS) : wpsD1 P B rd nx0 i [] s K = K s := _root_.id rfl
theorem xfx : wpsD1 P B rd nx0 i (⟨op, d, none⟩ :: rest) ⟨T, H, nx⟩ K = opD P nx0 i op d rest T H nx K B rd (isCall op) := _root_.id rfl
theorem x3w (g : Tmp) (w : Bool) : wpsD1 P B rd nx0 i (⟨op, d, some (g, w)⟩ :: rest) ⟨T, H, nx⟩ K = gD P nx0 i op d rest T H nx K B rd (T g) w := _root_.id rfl
theorem opD_t : opD P nx0 i op d rest T H nx K B rd true = callD P nx0 i op d rest T H nx K B rd := _root_.id rfl
theorem opD_f : opD P nx0 i op d rest T H nx K B rd false = stepD P nx0 i d rest T H nx K B rd (evalOp P op (viewD nx0 (B.getD i 0) (rd.getD i false) H) (nx0 + i) (ev T)) := _root_.id rfl
theorem gD_tt : gD P nx0 i op d rest T H nx K B rd (bool true) true = opD P nx0 i op d rest T H nx K B rd (isCall op) := x5r _ _
theorem gD_ff : gD P nx0 i op d rest T H nx K B rd (bool false) false = opD P nx0 i op d rest T H nx K B rd (isCall op) := xur _ _
theorem gD_tf : gD P nx0 i op d rest T H nx K B rd (bool true) false = wpsD1 P B rd nx0 (i + 1) rest ⟨putA T d (.val undef), H, nx⟩ K := xqr _ _
theorem gD_ft : gD P nx0 i op d rest T H nx K B rd (bool false) true = wpsD1 P B rd nx0 (i + 1) rest ⟨putA T d (.val undef), H, nx⟩ K := x4r _ _
theorem xt3 (w : Bool) : gD P nx0 i op d rest T H nx K B rd (.val undef) w = wpsD1 P B rd nx0 (i + 1) rest ⟨putA T d (.val undef), H, nx⟩ K := _root_.id rfl
theorem x5w (v : AV) (us : Upds) : stepD P nx0 i d rest T H nx K B rd (some (v, us)) = wpsD1 P B rd nx0 (i + 1) rest ⟨putA T d v, applyU H us, nx⟩ K := by simp [stepD, Got]
theorem xry (c : Prop) [Decidable c] (x : Option (AV × Upds)) : stepD P nx0 i d rest T H nx K B rd (if c then x else none) = (c ∧ stepD P nx0 i d rest T H nx K B rd x) := by
  by_cases h : c <;> simp [stepD, Got, h]
end
section
variable (P : Program) (nx0 i : Nat) (op : Op) (d : Option Tmp) (rest : List O1) (T : Nat → AV) (H : Nat → Option AO) (nx : Nat) (K : AS → Prop) (V W : List Nat) (VW : List (List Nat × List Nat))
def stepV (x : Option (AV × Upds)) : Prop := Got x fun p => okL W (nx0 + i) p.2 ∧ wpsV1 P nx0 (i + 1) rest VW ⟨putA T d p.1, applyU H p.2, nx⟩ K
def callV : Prop := ∃ v us, OpSL P op (viewL V W H) (ev T) (nx0 + i) v us ∧ okL W (nx0 + i) us ∧ wpsV1 P nx0 (i + 1) rest VW ⟨putA T d v, applyU H us, nx⟩ K
def opV (c : Bool) : Prop := if c = true then callV P nx0 i op d rest T H nx K V W VW else stepV P nx0 i d rest T H nx K W VW (evalOp P op (viewL V W H) (nx0 + i) (ev T))
theorem xiz (s : AS) : wpsV1 P nx0 i [] VW s K = K s := by cases VW <;> rfl
theorem xex : wpsV1 P nx0 i (⟨op, d, none⟩ :: rest) ((V, W) :: VW) ⟨T, H, nx⟩ K = opV P nx0 i op d rest T H nx K V W VW (isCall op) := _root_.id rfl
theorem opV_f : opV P nx0 i op d rest T H nx K V W VW false = stepV P nx0 i d rest T H nx K W VW (evalOp P op (viewL V W H) (nx0 + i) (ev T)) := _root_.id rfl
theorem xnx (v : AV) (us : Upds) : stepV P nx0 i d rest T H nx K W VW (some (v, us)) = (okL W (nx0 + i) us ∧ wpsV1 P nx0 (i + 1) rest VW ⟨putA T d v, applyU H us, nx⟩ K) := by simp [stepV, Got]
end
theorem x70 (V W : List Nat) (H : Nat → Option AO) (l : Nat) : viewL V W H l = if l ∈ V ∨ l ∈ W then H l else none := _root_.id rfl
theorem mem_c (l a : Nat) (A : List Nat) : (l ∈ a :: A) = (l = a ∨ l ∈ A) := propext List.mem_cons
theorem mem_n (l : Nat) : (l ∈ ([] : List Nat)) = False := by simp
theorem x34 (W : List Nat) (new : Nat) : okL W new [] = True := _root_.id rfl
theorem xo1 (W : List Nat) (new l : Nat) (o : Option AO) (us : Upds) : okL W new ((l, o) :: us) = ((l = new ∨ l ∈ W) ∧ okL W new us) := _root_.id rfl
def tbK (b : Bool) (p : Prop) : Prop := if b = true then True else p
theorem tbK_t (p : Prop) : tbK true p = True := by simp [tbK]
theorem tbK_f (p : Prop) : tbK false p = p := by simp [tbK]
theorem xq0 (nx i : Nat) (B : List Nat) (dn : List (List Nat × List Nat)) : meetA nx i B dn [] = True := by cases B <;> rfl
theorem x7x (nx i b : Nat) (B : List Nat) (dn : List (List Nat × List Nat)) (p : List Nat × List Nat) (r : List (List Nat × List Nat)) : meetA nx i (b :: B) dn (p :: r) = (meetR nx i b p.1 p.2 0 dn ∧ meetA nx (i + 1) B (dn ++ [p]) r) := _root_.id rfl
theorem xty (nx i b : Nat) (V W : List Nat) (j : Nat) : meetR nx i b V W j [] = True := _root_.id rfl
theorem xox (nx i b : Nat) (V W : List Nat) (j : Nat) (p : List Nat × List Nat) (r : List (List Nat × List Nat)) : meetR nx i b V W j (p :: r) = (tbK (b.testBit j) ((dis ((nx + i) :: W) p.1 ∧ dis ((nx + i) :: W) p.2) ∧ dis ((nx + j) :: p.2) V ∧ dis ((nx + j) :: p.2) W) ∧ meetR nx i b V W (j + 1) r) := _root_.id rfl
theorem xv3 (B : List Nat) : dis [] B = True := _root_.id rfl
theorem xk3 (a : Nat) (A B : List Nat) : dis (a :: A) B = (ne1 a B ∧ dis A B) := _root_.id rfl
theorem xp4 (a : Nat) : ne1 a [] = True := _root_.id rfl
theorem xn2 (a b : Nat) (B : List Nat) : ne1 a (b :: B) = (a ≠ b ∧ ne1 a B) := _root_.id rfl
theorem vw_app (a : List Nat × List Nat) (l r : List (List Nat × List Nat)) : (a :: l) ++ r = a :: (l ++ r) := _root_.id rfl
theorem x33 (r : List (List Nat × List Nat)) : [] ++ r = r := _root_.id rfl
theorem xqy (nx b : Nat) (H : Nat → Option AO) : viewD nx b false H = fun _ => none := _root_.id rfl
theorem xz2 (nx b : Nat) (H : Nat → Option AO) (l : Nat) : viewD nx b true H l = if l < nx ∨ b.testBit (l - nx) = true then H l else none := _root_.id rfl
theorem xo0 (T : Nat → AV) (d : Tmp) (v : AV) : putA T (some d) v = upd T d v := _root_.id rfl
theorem xp0 (T : Nat → AV) (v : AV) : putA T none v = T := _root_.id rfl
theorem xqx (H : Nat → Option AO) : applyU H [] = H := _root_.id rfl
theorem xav (H : Nat → Option AO) (l : Nat) (o : Option AO) (us : Upds) : applyU H ((l, o) :: us) = applyU (upd H l o) us := _root_.id rfl
theorem ev_tmp (T : Nat → AV) (t : Tmp) : ev T (.tmp t) = T t := _root_.id rfl
theorem xi3 (T : Nat → AV) (v : Value) : ev T (.const v) = xmf v := _root_.id rfl
theorem xjv (k : IntKind) (n : Int) : xmf (.int k n) = .val (.int k n) := _root_.id rfl
theorem xiu (b : Bool) : xmf (.bool b) = .val (.bool b) := _root_.id rfl
theorem xov (s : ByteArray) : xmf (.string s) = .val (.string s) := _root_.id rfl
theorem xqs (a : Option Addr) (l c : Nat) : xmf (.slice a l c) = .val (.slice a l c) := _root_.id rfl
theorem xfv : xmf (.pointer none) = .val (.pointer none) := _root_.id rfl
def convA (P : Program) (S D : TypeId) (x : AV) : Option AV := match P.underlying S with
  | some _ => match x with
    | .val (.int _ n) => (intOfT P D).map fun k' => .val (.int k' (k'.wrap n))
    | .val (.string s) => match kindOf P D with
      | .str => some (.val (.string s))
      | _ => none
    | .sl sz xs => if sz = 1 then x0g P S D xs else none
    | _ => none
  | none => none
def convE (P : Program) (S D : TypeId) (x : AV) : Option (AV × Upds) := (convA P S D x).map fun v => (v, [])
def convV (P : Program) (S D : TypeId) (V : Nat → Option AO) (x : AV) : Option (AV × Upds) := match x with
  | .msl l n => (xrj P S D V l n).map fun v => (v, [])
  | x => convE P S D x
theorem x9y (P : Program) (V : Nat → Option AO) (new : Nat) (ρ : Operand → AV) (S D : TypeId) (x : Operand) : evalOp P (.convert S D x) V new ρ = convV P S D V (ρ x) := by
  simp only [evalOp, xfc]
  generalize ρ x = y
  cases y <;> rfl
theorem CV_val (P : Program) (V : Nat → Option AO) (S D : TypeId) (v : Value) : convV P S D V (.val v) = convE P S D (.val v) := _root_.id rfl
theorem xno {P : Program} {S D : TypeId} {k k' : IntKind} (n : Int) (hS : (P.underlying S).isSome = true) (hD : intOfT P D = some k') : convE P S D (.val (.int k n)) = some (.val (.int k' (k'.wrap n)), []) := by
  obtain ⟨d, hd⟩ := Option.isSome_iff_exists.1 hS
  simp [convE, convA, hd, hD]
section
variable (P : Program) (V : Nat → Option AO) (new : Nat) (ρ : Operand → AV)
theorem E_move (x : Operand) : evalOp P (.move x) V new ρ = some (ρ x, []) := _root_.id rfl
theorem xg1 (x : Operand) : evalOp P (.assign x) V new ρ = some (ρ x, []) := _root_.id rfl
def pickK (c x y : AV) : Option (AV × Upds) := match c with
  | .val (.bool t) => some (if t = true then x else y, [])
  | _ => none
theorem E_pick (c x y : Operand) : evalOp P (.pick c x y) V new ρ = pickK (ρ c) (ρ x) (ρ y) := by
  simp only [evalOp, xfc, pickK]
  generalize ρ c = z
  cases z with
  | val v => cases v <;> rfl
  | _ => rfl
theorem xq4 (x y : AV) : pickK (bool true) x y = some (x, []) := _root_.id rfl
theorem xa6 (x y : AV) : pickK (bool false) x y = some (y, []) := _root_.id rfl
def allocK (new T : Nat) : Option (Bool × Nat) → Option AV → Option (AV × Upds)
  | some (_, n), some z => if xi z n = true then some (.loc new n 0 0, [(new, some (.row T n [z]))]) else none
  | _, _ => none
theorem xdg (T : TypeId) : evalOp P (.alloc T) V new ρ = allocK new T (aggN P T) (zeroOf P T) := by
  simp only [evalOp, xdi]; rfl
theorem xcd (T : Nat) (b : Bool) (n : Nat) (z : AV) : allocK new T (some (b, n)) (some z) = if xi z n = true then some (.loc new n 0 0, [(new, some (.row T n [z]))]) else none := _root_.id rfl
def boxK (new T : Nat) (x : AV) : Option (Bool × Nat) → Option (AV × Upds)
  | some (_, n) => if xi x n = true then some (.loc new n 0 0, [(new, some (.row T n [x]))]) else none
  | none => none
theorem E_box (T : TypeId) (x : Operand) : evalOp P (.box T x) V new ρ = boxK new T (ρ x) (aggN P T) := by
  simp only [evalOp, xak, boxK]; split <;> simp_all
theorem xwd (T : Nat) (x : AV) (b : Bool) (n : Nat) : boxK new T x (some (b, n)) = if xi x n = true then some (.loc new n 0 0, [(new, some (.row T n [x]))]) else none := _root_.id rfl
def xnf (P : Program) (e len new : Nat) (ps : List (Nat × AV)) : Option (Bool × Nat) → Option AV → Option (AV × Upds)
  | some (_, n), some z => if xi z n = true ∧ len * n ≤ 16777216 ∧ 0 < n then (setsA n (List.replicate len z) ps).map fun xs => (.msl new len, [(new, some (.row e n xs))]) else none
  | _, _ => none
theorem xhh (T len : Nat) (parts : Array (Nat × Operand)) (e : TypeId) (he : xw P T = some e) :
    evalOp P (.buildSlice T len parts) V new ρ = xnf P e len new (parts.toList.map fun p => (p.1, ρ p.2)) (aggN P e) (zeroOf P e) := by
  simp only [evalOp, xoe, he, xnf]; rfl
theorem E_load (T : TypeId) (a : Operand) : evalOp P (.load T a) V new ρ = (x9c P T V (ρ a)).map fun v => (v, []) := _root_.id rfl
theorem xiy (T : TypeId) : evalOp P (.makeMap T none) V new ρ = xkf P T new := _root_.id rfl
theorem xh3 (T : TypeId) (m k : Operand) (c : Bool) : evalOp P (.lookup T m k c) V new ρ = (xdd P T c V (ρ m) (ρ k)).map fun v => (v, []) := _root_.id rfl
theorem x3u (T : TypeId) (m k x : Operand) : evalOp P (.mapUpdate T m k x) V new ρ = (x4c P T V (ρ m) (ρ k) (ρ x)).map fun us => (.val undef, us) := _root_.id rfl
def lookK (c : Bool) (d : TypeDesc) (z : Option AV) (kv : Value) (o : Option AO) : Option AV := match o with
  | some (.map ks vs) => if isKeyB d kv = true ∧ ks.all (isKeyB d) = true then
        match ks.findIdx? (keyEq kv) with
        | some j => (vs[j]?).map fun v => xyd c v true
        | none => z.map fun z => xyd c z false
      else none
  | _ => none
theorem xi6 {T et : TypeId} {d : TypeDesc} (h : mapOf P T = some (d, et)) (c : Bool) (l : Nat) (kv : Value) : xdd P T c V (.mp l) (.val kv) = lookK c d (zeroOf P et) kv (V l) := by
  simp only [xdd, h, lookK]
  cases V l with
  | none => rfl
  | some o => cases o <;> rfl
def mupdK (d : TypeDesc) (kv : Value) (x : AV) (l : Nat) (o : Option AO) : Option Upds := match o with
  | some (.map ks vs) => if isKeyB d kv = true ∧ ks.all (isKeyB d) = true then
        match ks.findIdx? (keyEq kv) with
        | some j => some [(l, some (.map ks (vs.set j x)))]
        | none => some [(l, some (.map (ks ++ [kv]) (vs ++ [x])))]
      else none
  | _ => none
theorem x93 {T et : TypeId} {d : TypeDesc} (h : mapOf P T = some (d, et)) (l : Nat) (kv : Value) (x : AV) : x4c P T V (.mp l) (.val kv) x = mupdK d kv x l (V l) := by
  simp only [x4c, h, mupdK]
  cases V l with
  | none => rfl
  | some o => cases o <;> rfl
theorem xu5 (T : TypeId) (a x : Operand) : evalOp P (.store T a x) V new ρ = (xpb P T V (ρ a) (ρ x)).map fun us => (.val undef, us) := _root_.id rfl
theorem x7u (T : TypeId) (l c : Operand) : evalOp P (.makeSlice T l c) V new ρ = x1c P T (ρ l) (ρ c) new := _root_.id rfl
theorem xu2 (s x : Operand) (t : TypeId) : evalOp P (.call (Call.mk (.builtin .append) #[s, x] #[t, t])) V new ρ = xsd P t V (ρ s) (ρ x) new := by
  simp [evalOp]
theorem E_len (x : Operand) (T : TypeId) : evalOp P (.call (Call.mk (.builtin .len) #[x] #[T])) V new ρ = (x2b P T (ρ x)).map fun v => (v, []) := by
  simp [evalOp, xfc]
theorem xw3 (T : TypeId) (parts : Array (Nat × Operand)) : evalOp P (.build T parts) V new ρ = (xub P T (parts.toList.map fun p => (p.1, ρ p.2))).map fun v => (v, []) := _root_.id rfl
def nilK (x : AV) : Option (AV × Upds) := match x with
  | .loc l sz i off => some (.loc l sz i off, [])
  | .ptr y off => some (.ptr y off, [])
  | .fn (.func f) a b => some (.fn (.func f) a b, [])
  | _ => none
theorem xsx (x : Operand) : evalOp P (.nilCheck x) V new ρ = nilK (ρ x) := by
  simp only [evalOp, xfc, nilK]
  generalize ρ x = z
  cases z with
  | val v => rfl
  | fn f a b => cases f <;> rfl
  | _ => rfl
theorem xg3 (l sz i off : Nat) : nilK (.loc l sz i off) = some (.loc l sz i off, []) := _root_.id rfl
theorem xv0 (y : AV) (off : Nat) : nilK (.ptr y off) = some (.ptr y off, []) := _root_.id rfl
def binK (P : Program) (op : BinOp) (T : TypeId) (x y : AV) : Option (AV × Upds) := match y with
  | .val .nilIface => none
  | v => (xqb P op T x v).map fun v => (v, [])
theorem E_bin (op : BinOp) (T yT : TypeId) (x : Operand) (t : Tmp) : evalOp P (.binOp op T x (.tmp t) yT) V new ρ = binK P op T (ρ x) (ρ (.tmp t)) := by
  simp only [evalOp, xfc, binK]
  generalize ρ (.tmp t) = z
  cases z with
  | val v => cases v <;> rfl
  | _ => rfl
theorem E_binI (op : BinOp) (T yT : TypeId) (x : Operand) (k : IntKind) (n : Int) : evalOp P (.binOp op T x (.const (.int k n)) yT) V new ρ = binK P op T (ρ x) (ρ (.const (.int k n))) := by
  simp only [evalOp, xfc, binK]
  generalize ρ (.const (.int k n)) = z
  cases z with
  | val v => cases v <;> rfl
  | _ => rfl
theorem E_binS (op : BinOp) (T yT : TypeId) (x : Operand) (s : ByteArray) : evalOp P (.binOp op T x (.const (.string s)) yT) V new ρ = binK P op T (ρ x) (ρ (.const (.string s))) := by
  simp only [evalOp, xfc, binK]
  generalize ρ (.const (.string s)) = z
  cases z with
  | val v => cases v <;> rfl
  | _ => rfl
theorem E_binN (op : BinOp) (T yT : TypeId) (x : Operand) : evalOp P (.binOp op T x (.const .nilIface) yT) V new ρ = (xqb P op T (ρ x) (.val .nilIface)).map fun v => (v, []) := _root_.id rfl
section
variable (k : IntKind) (a b : Int) (T : TypeId)
theorem B_add : binK P .add T (.val (.int k a)) (.val (.int k b)) = some (.val (.int k (k.wrap (a + b))), []) := by simp [binK, xqb, x8c]
theorem B_sub : binK P .sub T (.val (.int k a)) (.val (.int k b)) = some (.val (.int k (k.wrap (a - b))), []) := by simp [binK, xqb, x8c]
theorem B_mul : binK P .mul T (.val (.int k a)) (.val (.int k b)) = some (.val (.int k (k.wrap (a * b))), []) := by simp [binK, xqb, x8c]
theorem B_quo : binK P .quo T (.val (.int k a)) (.val (.int k b)) = if b = 0 then none else some (.val (.int k (k.wrap (a.tdiv b))), []) := by
  by_cases h : b = 0 <;> simp [binK, xqb, x8c, h]
theorem B_rem : binK P .rem T (.val (.int k a)) (.val (.int k b)) = if b = 0 then none else some (.val (.int k (a.tmod b)), []) := by
  by_cases h : b = 0 <;> simp [binK, xqb, x8c, h]
def bAnd (k : IntKind) (a b : Int) : Int := k.wrap (BitVec.ofInt k.bits a &&& BitVec.ofInt k.bits b).toNat
theorem B_and : binK P .and T (.val (.int k a)) (.val (.int k b)) = some (.val (.int k (bAnd k a b)), []) := by simp [binK, xqb, x8c, bAnd]
theorem B_eql : binK P .eql T (.val (.int k a)) (.val (.int k b)) = tstR (a = b) := by simp [binK, xqb, x8c, tstR]; rfl
theorem B_neq : binK P .neq T (.val (.int k a)) (.val (.int k b)) = tstR (¬ a = b) := by
  simp only [binK, xqb, x8c, tstR]
  by_cases h : a = b <;> simp [h]
theorem B_lss : binK P .lss T (.val (.int k a)) (.val (.int k b)) = tstR (a < b) := by simp [binK, xqb, x8c, tstR]
theorem B_leq : binK P .leq T (.val (.int k a)) (.val (.int k b)) = tstR (a ≤ b) := by simp [binK, xqb, x8c, tstR]
theorem B_gtr : binK P .gtr T (.val (.int k a)) (.val (.int k b)) = tstR (b < a) := by simp [binK, xqb, x8c, tstR]
theorem B_geq : binK P .geq T (.val (.int k a)) (.val (.int k b)) = tstR (b ≤ a) := by simp [binK, xqb, x8c, tstR]
variable (s t : ByteArray)
theorem xcn : (s == t) = decide (s = t) := by
  rw [beq_toListBytes, ByteArray.toList_eq, ByteArray.toList_eq]
  obtain ⟨⟨x⟩⟩ := s
  obtain ⟨⟨y⟩⟩ := t
  by_cases h : x = y
  · subst h; simp
  · have : ¬ (ByteArray.mk ⟨x⟩ = ByteArray.mk ⟨y⟩) := fun e => h (by injection e with e; injection e)
    simp [h, this]
theorem S_eql : binK P .eql T (.val (.string s)) (.val (.string t)) = tstR (s = t) := by simp [binK, xqb, xok, xcn, tstR]
theorem S_neq : binK P .neq T (.val (.string s)) (.val (.string t)) = tstR (¬ s = t) := by simp [binK, xqb, xok, xcn, tstR]
theorem S_add : binK P .add T (.val (.string s)) (.val (.string t)) = if s.size + t.size ≤ 9223372036854775807 then some (.val (.string (s ++ t)), []) else none := by
  by_cases h : s.size + t.size ≤ 9223372036854775807 <;> simp [binK, xqb, xok, h]
end
def notK (x : AV) : Option (AV × Upds) := match x with
  | .val (.bool b) => some (.val (.bool !b), [])
  | _ => none
theorem E_not (T : TypeId) (x : Operand) : evalOp P (.unOp .not T x) V new ρ = notK (ρ x) := by
  simp only [evalOp, xfc, notK]
  generalize ρ x = z
  cases z with
  | val v => cases v <;> rfl
  | _ => rfl
theorem notK_b (b : Bool) : notK (bool b) = some (bool !b, []) := _root_.id rfl
theorem xyu (T : TypeId) (x : Operand) (f : Nat) : evalOp P (.fieldAddr T x f) V new ρ = (xe P T f (ρ x)).map fun v => (v, []) := _root_.id rfl
theorem xp5 (T : TypeId) (x : Operand) (f : Nat) : evalOp P (.field T x f) V new ρ = (xze P T f (ρ x)).map fun v => (v, []) := _root_.id rfl
theorem xqv (T : TypeId) (x i : Operand) : evalOp P (.indexAddr T x i) V new ρ = (xy P T (ρ x) (ρ i)).map fun v => (v, []) := _root_.id rfl
theorem x84 (T : TypeId) (x i : Operand) : evalOp P (.index T x i) V new ρ = (xg P T (ρ x) (ρ i)).map fun v => (v, []) := _root_.id rfl
theorem xo2 (ρ : Operand → AV) (x : Operand) : opt ρ (some x) = some (ρ x) := _root_.id rfl
theorem xx2 (ρ : Operand → AV) : opt ρ none = none := _root_.id rfl
theorem xy5 (T : TypeId) (x : Operand) (lo hi mx : Option Operand) : evalOp P (.slice T x lo hi mx) V new ρ = (xrc P T (ρ x) (opt ρ lo) (opt ρ hi) (opt ρ mx)).map fun v => (v, []) := _root_.id rfl
theorem xmw (f : Fn) (a b : List Operand) : evalOp P (.makeFunc f a.toArray b.toArray) V new ρ = some (.fn f (a.map ρ) (b.map ρ), []) := _root_.id rfl
def xgt (x : AV) (i : Nat) : Option AV := match x with
  | .tup vs => vs[i]?
  | _ => none
theorem xcz (x : Operand) (i : Nat) : evalOp P (.extract x i) V new ρ = (xgt (ρ x) i).map fun v => (v, []) := _root_.id rfl
theorem xqt (vs : List AV) (i : Nat) : xgt (.tup vs) i = vs[i]? := _root_.id rfl
end
section
variable (P : Program)
theorem xr {T f o ft n : Nat} {b : Bool} (h : xz P T f = some (o, ft)) (h2 : aggN P ft = some (b, n)) (hn : n ≠ 0) (l sz i off : Nat) : xe P T f (.loc l sz i off) = some (.loc l sz i (off + o)) := by
  simp [xe, h, h2, hn]
theorem x6d {T f o ft n : Nat} {b : Bool} (h : xz P T f = some (o, ft)) (h2 : aggN P ft = some (b, n)) (hn : n ≠ 0) (y : AV) (off : Nat) : xe P T f (.ptr y off) = some (.ptr y (off + o)) := by
  simp [xe, h, h2, hn]
theorem xyc {T e s : Nat} {b : Bool} (h : xw P T = some e) (h2 : aggN P e = some (b, s)) (xs : List AV) (k : IntKind) (n : Int) :
    xy P T (.sl s xs) (.val (.int k n)) = if 0 ≤ n then (xs[n.toNat]?).map fun z => .ptr z 0 else none := by
  simp [xy, h, h2]
theorem xii {T e s : Nat} {b : Bool} (h : xw P T = some e) (h2 : aggN P e = some (b, s)) (l len : Nat) (k : IntKind) (n : Int) :
    xy P T (.msl l len) (.val (.int k n)) = if 0 ≤ n ∧ n < len then some (.loc l s n.toNat 0) else none := by
  simp [xy, h, h2]
theorem xck {T e s len : Nat} {b : Bool} (h0 : xw P T = none) (h : arrOfT P T = some (len, e)) (h2 : aggN P e = some (b, s)) (l sz i off : Nat) (k : IntKind) (n : Int) :
    xy P T (.loc l sz i off) (.val (.int k n)) = if 0 ≤ n ∧ n < len then some (.loc l sz i (off + n.toNat * s)) else none := by
  simp [xy, h0, h, h2]
theorem xzz {T : Nat} (h : kindOf P T = .str) (s : ByteArray) (k : IntKind) (n : Int) : xg P T (.val (.string s)) (.val (.int k n)) = if 0 ≤ n then (s[n.toNat]?).map fun b => u8 b else none := by
  simp [xg, h]
theorem len_sl {T e : Nat} (h : xw P T = some e) (sz : Nat) (xs : List AV) : x2b P T (.sl sz xs) = some (int xs.length) := by simp [x2b, h]
theorem xrv {T e : Nat} (h : xw P T = some e) (l n : Nat) : x2b P T (.msl l n) = some (int n) := by simp [x2b, h]
theorem xz4 {T e : Nat} (h : xw P T = some e) : x2b P T nilS = some (int 0) := by simp [x2b, h]
theorem xn5 {T : Nat} (h : kindOf P T = .str) (s : ByteArray) : x2b P T (.val (.string s)) = some (int s.size) := by simp [x2b, h]
theorem xv2 (T : TypeId) (V : Nat → Option AO) (y : AV) (off : Nat) : x9c P T V (.ptr y off) = evalLd P T y off := _root_.id rfl
def rowAt (o : Option AO) (sz i : Nat) : Option AV := match o with
  | some (.row _ sz' xs) => if sz = sz' then xs[i]? else none
  | _ => none
theorem xy0 (T : TypeId) (V : Nat → Option AO) (l sz i off : Nat) : x9c P T V (.loc l sz i off) = (rowAt (V l) sz i).bind fun y => evalLd P T y off := by
  simp only [x9c, rowAt]
  cases V l with
  | none => rfl
  | some o =>
    cases o with
    | row T' sz' xs =>
      by_cases e : sz = sz'
      · simp only [e, if_true]; cases xs[i]? <;> rfl
      · simp [e]
    | map ks vs => rfl
    | siter s p => rfl
    | mapb bs ck ks vs => rfl
theorem xd0 (T sz i : Nat) (xs : List AV) : rowAt (some (.row T sz xs)) sz i = xs[i]? := by simp [rowAt]
theorem ld_agg {T n : Nat} (h : aggN P T = some (true, n)) (y : AV) (off : Nat) : evalLd P T y off = ldAgg y off n := by simp [evalLd, h]
theorem ld_one {T n : Nat} (h : aggN P T = some (false, n)) (y : AV) (off : Nat) : evalLd P T y off = ldOne y off := by simp [evalLd, h]
theorem x6u (cs : List AV) (n : Nat) (h : cs.length = n) : ldAgg (.agg cs) 0 n = some (.agg cs) := by simp [ldAgg, h]
theorem xzy (cs : List AV) (off : Nat) : ldOne (.agg cs) off = cs[off]? := _root_.id rfl
theorem xg0 (k : IntKind) (n : Int) : ldOne (.val (.int k n)) 0 = some (.val (.int k n)) := _root_.id rfl
theorem xfw (b : Bool) : ldOne (.val (.bool b)) 0 = some (.val (.bool b)) := _root_.id rfl
theorem xwy (s n : Nat) : ldOne (.msl s n) 0 = some (.msl s n) := _root_.id rfl
theorem xyz (x : AV) (d : Nat) : ldOne (.ptr x d) 0 = some (.ptr x d) := _root_.id rfl
def rowT (o : Option AO) (sz i : Nat) : Option (Nat × List AV × AV) := match o with
  | some (.row T sz' xs) => if sz = sz' then (xs[i]?).map fun x => (T, xs, x) else none
  | _ => none
theorem xmc {T n : Nat} {b : Bool} (h : aggN P T = some (b, n)) (V : Nat → Option AO) (l sz i off : Nat) (v : AV) :
    xpb P T V (.loc l sz i off) v = if xi v n = true then (rowT (V l) sz i).bind fun p => (stAV p.2.2 off v).map fun x' => [(l, some (.row p.1 sz (p.2.1.set i x')))] else none := by
  unfold xpb rowT
  simp only [h]
  split
  · cases V l with
    | none => rfl
    | some o =>
      cases o with
      | row T' sz' xs =>
        by_cases e : sz = sz'
        · subst e
          simp only [if_true]
          cases xs[i]? <;> rfl
        · simp [e]
      | map ks vs => rfl
      | siter s p => rfl
      | mapb bs ck ks vs => rfl
  · rfl
theorem xx1 (T sz i : Nat) (xs : List AV) : rowT (some (.row T sz xs)) sz i = (xs[i]?).map fun x => (T, xs, x) := by simp [rowT]
theorem x6w {α β : Type} (a : α) (f : α → Option β) : (some a).bind f = f a := _root_.id rfl
theorem xj2 (cs vs : List AV) (h : vs.length = cs.length) : stAV (.agg cs) 0 (.agg vs) = some (.agg vs) := by simp [stAV, h]
end
end Go.Proofs.YtefdlpandfhcgaaDoor.AL

