/- A law of the given program is proved: part 20 of 47. -/
import Derived.Test.YtjmnoaoeediodaaDoorC19
set_option linter.all false
/- AL: the evaluator's equations, in the forms that the walks' simp uses. -/
set_option linter.unusedSimpArgs false
namespace Go.Proofs.YtjmnoaoeediodaaDoor.AL
abbrev int (n : Int) : AV := .val (.int .i64 n)
abbrev str (s : ByteArray) : AV := .val (.string s)
abbrev bool (b : Bool) : AV := .val (.bool b)
abbrev nilS : AV := .val (.slice none 0 0)
abbrev u8 (b : UInt8) : AV := .val (.int .u8 (b.toNat : Int))
theorem xlz {α : Type} (a : α) (k : α → Prop) : Got (some a) k = k a := by simp [Got]
theorem argT_0 (x : AV) (xs : List AV) : argT (x :: xs) 0 = x := _root_.id rfl
theorem argT_1 (x y : AV) (xs : List AV) : argT (x :: y :: xs) 1 = y := _root_.id rfl
theorem argT_2 (x y z : AV) (xs : List AV) : argT (x :: y :: z :: xs) 2 = z := _root_.id rfl
theorem hs_int (k : IntKind) (n : Int) : xn (.val (.int k n)) 1 = true := _root_.id rfl
theorem xz1 (b : Bool) : xn (.val (.bool b)) 1 = true := _root_.id rfl
theorem hs_str (s : ByteArray) : xn (.val (.string s)) 1 = true := _root_.id rfl
theorem hs_msl (l n : Nat) : xn (.msl l n) 1 = true := _root_.id rfl
theorem hs_loc (a b c d : Nat) : xn (.loc a b c d) 1 = true := _root_.id rfl
theorem hs_agg (cs : List AV) (n : Nat) : xn (.agg cs) n = (cs.length == n && cs.all AV.one) := _root_.id rfl
theorem xh0 (x : AV) (xs : List AV) : (x :: xs).all AV.one = (x.one && xs.all AV.one) := _root_.id rfl
theorem xu0 : ([] : List AV).all AV.one = true := _root_.id rfl
theorem xd1 (k : IntKind) (n : Int) : AV.one (.val (.int k n)) = true := _root_.id rfl
theorem xiy (b : Bool) : AV.one (.val (.bool b)) = true := _root_.id rfl
theorem xp2 : AV.one nilS = true := _root_.id rfl
theorem x31 (l n : Nat) : AV.one (.msl l n) = true := _root_.id rfl
theorem xh1 (a b c d : Nat) : AV.one (.loc a b c d) = true := _root_.id rfl
def fillK (v : AV) (place : Nat → Option (Nat × Nat)) (cells : List AV) (rest : List (Nat × AV)) (o : Option (Nat × Nat)) : Option (List AV) := match o with
  | none => none
  | some (off, size) => if xn v size = true ∧ off + size ≤ cells.length then fillA place (splice cells off v.cells) rest else none
theorem xyx (place : Nat → Option (Nat × Nat)) (cells : List AV) : fillA place cells [] = some cells := _root_.id rfl
theorem x1u (place : Nat → Option (Nat × Nat)) (cells : List AV) (i : Nat) (v : AV) (rest : List (Nat × AV)) : fillA place cells ((i, v) :: rest) = fillK v place cells rest (place i) := by
  simp only [fillA, fillK]
  cases place i <;> rfl
theorem xjv (v : AV) (place : Nat → Option (Nat × Nat)) (cells : List AV) (rest : List (Nat × AV)) (off size : Nat) : fillK v place cells rest (some (off, size)) = if xn v size = true ∧ off + size ≤ cells.length then fillA place (splice cells off v.cells) rest else none := _root_.id rfl
theorem xzv (cs : List AV) (off : Nat) (vs : List AV) : splice cs off vs = cs.take off ++ vs ++ cs.drop (off + vs.length) := _root_.id rfl
theorem xsv (v : Value) : AV.cells (.val v) = [.val v] := _root_.id rfl
theorem xex (s n : Nat) : AV.cells (.msl s n) = [.msl s n] := _root_.id rfl
theorem xmw (a b c d : Nat) : AV.cells (.loc a b c d) = [.loc a b c d] := _root_.id rfl
def guardV (v : AV) (w : Bool) (y n : Prop) : Prop :=
  match v with
  | .val (.bool b) => (b = w → y) ∧ (¬ b = w → n)
  | .val _ => n
  | _ => False
theorem xpq (y n : Prop) : guardV (bool true) true y n = y := by simp [guardV]
theorem x5q (y n : Prop) : guardV (bool true) false y n = n := by simp [guardV]
theorem xdq (y n : Prop) : guardV (bool false) true y n = n := by simp [guardV]
theorem xgq (y n : Prop) : guardV (bool false) false y n = y := by simp [guardV]
def tstR (p : Prop) [Decidable p] : Option (AV × Upds) := some (.val (.bool (decide p)), [])
def brR (b : Bool) : Option (AV × Upds) := some (.val (.bool b), [])
theorem tstR_t : tstR True = some (bool true, []) := _root_.id rfl
theorem tstR_f : tstR False = some (bool false, []) := _root_.id rfl
theorem brR_t : brR true = some (bool true, []) := _root_.id rfl
theorem brR_f : brR false = some (bool false, []) := _root_.id rfl
section
variable (P : Program) (nx0 i : Nat) (op : Op) (d : Option Tmp) (rest : List O1) (T : Nat → AV) (H : Nat → Option AO) (nx : Nat) (K : AS → Prop)
def stepR (x : Option (AV × Upds)) : Prop := Got x fun p => wps1 P nx0 (i + 1) rest ⟨putA T d p.1, applyU H p.2, nx⟩ K
def callR : Prop := Sem1 P op H nx (nx0 + i) (ev T) fun v H' nx' => wps1 P nx0 (i + 1) rest ⟨putA T d v, H', nx'⟩ K
def opR (c : Bool) : Prop := if c = true then callR P nx0 i op d rest T H nx K else stepR P nx0 i d rest T H nx K (evalOp P op H (nx0 + i) (ev T))
def gR (v : AV) (w : Bool) : Prop := guardV v w (opR P nx0 i op d rest T H nx K (isCall op)) (wps1 P nx0 (i + 1) rest ⟨putA T d (.val undef), H, nx⟩ K)
theorem xgy (s : AS) : wps1 P nx0 i [] s K = K s := _root_.id rfl
theorem xlw : wps1 P nx0 i (⟨op, d, none⟩ :: rest) ⟨T, H, nx⟩ K = opR P nx0 i op d rest T H nx K (isCall op) := _root_.id rfl
theorem xlx (g : Tmp) (w : Bool) : wps1 P nx0 i (⟨op, d, some (g, w)⟩ :: rest) ⟨T, H, nx⟩ K = gR P nx0 i op d rest T H nx K (T g) w := _root_.id rfl
theorem opR_t : opR P nx0 i op d rest T H nx K true = callR P nx0 i op d rest T H nx K := _root_.id rfl
theorem opR_f : opR P nx0 i op d rest T H nx K false = stepR P nx0 i d rest T H nx K (evalOp P op H (nx0 + i) (ev T)) := _root_.id rfl
theorem gR_tt : gR P nx0 i op d rest T H nx K (bool true) true = opR P nx0 i op d rest T H nx K (isCall op) := xpq _ _
theorem gR_ff : gR P nx0 i op d rest T H nx K (bool false) false = opR P nx0 i op d rest T H nx K (isCall op) := xgq _ _
theorem gR_tf : gR P nx0 i op d rest T H nx K (bool true) false = wps1 P nx0 (i + 1) rest ⟨putA T d (.val undef), H, nx⟩ K := x5q _ _
theorem gR_ft : gR P nx0 i op d rest T H nx K (bool false) true = wps1 P nx0 (i + 1) rest ⟨putA T d (.val undef), H, nx⟩ K := xdq _ _
theorem xqy (w : Bool) : gR P nx0 i op d rest T H nx K (.val undef) w = wps1 P nx0 (i + 1) rest ⟨putA T d (.val undef), H, nx⟩ K := _root_.id rfl
theorem xwv (v : AV) (us : Upds) : stepR P nx0 i d rest T H nx K (some (v, us)) = wps1 P nx0 (i + 1) rest ⟨putA T d v, applyU H us, nx⟩ K := by simp [stepR, Got]
theorem xkx (p : Prop) [Decidable p] : stepR P nx0 i d rest T H nx K (tstR p) = ((p → wps1 P nx0 (i + 1) rest ⟨putA T d (bool true), H, nx⟩ K) ∧ (¬ p → wps1 P nx0 (i + 1) rest ⟨putA T d (bool false), H, nx⟩ K)) := by
  by_cases h : p <;> simp [stepR, Got, tstR, h, applyU]
theorem x5x (c : Prop) [Decidable c] (x : Option (AV × Upds)) : stepR P nx0 i d rest T H nx K (if c then x else none) = (c ∧ stepR P nx0 i d rest T H nx K x) := by
  by_cases h : c <;> simp [stepR, Got, h]
variable (B : List Nat) (rd : List Bool)
def stepD (x : Option (AV × Upds)) : Prop := Got x fun p => wpsD1 P B rd nx0 (i + 1) rest ⟨putA T d p.1, applyU H p.2, nx⟩ K
def callD : Prop := ∃ v, OpS1 P op (viewD nx0 (B.getD i 0) (rd.getD i false) H) (ev T) (nx0 + i) v ∧ wpsD1 P B rd nx0 (i + 1) rest ⟨putA T d v, H, nx⟩ K
def opD (c : Bool) : Prop := if c = true then callD P nx0 i op d rest T H nx K B rd else stepD P nx0 i d rest T H nx K B rd (evalOp P op (viewD nx0 (B.getD i 0) (rd.getD i false) H) (nx0 + i) (ev T))
def gD (v : AV) (w : Bool) : Prop := guardV v w (opD P nx0 i op d rest T H nx K B rd (isCall op)) (wpsD1 P B rd nx0 (i + 1) rest ⟨putA T d (.val undef), H, nx⟩ K)
theorem xvw (s : AS) : wpsD1 P B rd nx0 i [] s K = K s := _root_.id rfl
theorem xpv : wpsD1 P B rd nx0 i (⟨op, d, none⟩ :: rest) ⟨T, H, nx⟩ K = opD P nx0 i op d rest T H nx K B rd (isCall op) := _root_.id rfl
theorem x3v (g : Tmp) (w : Bool) : wpsD1 P B rd nx0 i (⟨op, d, some (g, w)⟩ :: rest) ⟨T, H, nx⟩ K = gD P nx0 i op d rest T H nx K B rd (T g) w := _root_.id rfl
theorem opD_t : opD P nx0 i op d rest T H nx K B rd true = callD P nx0 i op d rest T H nx K B rd := _root_.id rfl
theorem opD_f : opD P nx0 i op d rest T H nx K B rd false = stepD P nx0 i d rest T H nx K B rd (evalOp P op (viewD nx0 (B.getD i 0) (rd.getD i false) H) (nx0 + i) (ev T)) := _root_.id rfl
theorem gD_tt : gD P nx0 i op d rest T H nx K B rd (bool true) true = opD P nx0 i op d rest T H nx K B rd (isCall op) := xpq _ _
theorem gD_ff : gD P nx0 i op d rest T H nx K B rd (bool false) false = opD P nx0 i op d rest T H nx K B rd (isCall op) := xgq _ _
theorem gD_tf : gD P nx0 i op d rest T H nx K B rd (bool true) false = wpsD1 P B rd nx0 (i + 1) rest ⟨putA T d (.val undef), H, nx⟩ K := x5q _ _
theorem gD_ft : gD P nx0 i op d rest T H nx K B rd (bool false) true = wpsD1 P B rd nx0 (i + 1) rest ⟨putA T d (.val undef), H, nx⟩ K := xdq _ _
theorem x6z (w : Bool) : gD P nx0 i op d rest T H nx K B rd (.val undef) w = wpsD1 P B rd nx0 (i + 1) rest ⟨putA T d (.val undef), H, nx⟩ K := _root_.id rfl
theorem x8u (v : AV) (us : Upds) : stepD P nx0 i d rest T H nx K B rd (some (v, us)) = wpsD1 P B rd nx0 (i + 1) rest ⟨putA T d v, applyU H us, nx⟩ K := by simp [stepD, Got]
theorem x0w (c : Prop) [Decidable c] (x : Option (AV × Upds)) : stepD P nx0 i d rest T H nx K B rd (if c then x else none) = (c ∧ stepD P nx0 i d rest T H nx K B rd x) := by
  by_cases h : c <;> simp [stepD, Got, h]
end
section
variable (P : Program) (nx0 i : Nat) (op : Op) (d : Option Tmp) (rest : List O1) (T : Nat → AV) (H : Nat → Option AO) (nx : Nat) (K : AS → Prop) (V W : List Nat) (VW : List (List Nat × List Nat))
end
theorem x3x (nx b : Nat) (H : Nat → Option AO) : viewD nx b false H = fun _ => none := _root_.id rfl
theorem xry (nx b : Nat) (H : Nat → Option AO) (l : Nat) : viewD nx b true H l = if l < nx ∨ b.testBit (l - nx) = true then H l else none := _root_.id rfl
theorem xjx (T : Nat → AV) (d : Tmp) (v : AV) : putA T (some d) v = upd T d v := _root_.id rfl
theorem xbx (T : Nat → AV) (v : AV) : putA T none v = T := _root_.id rfl
theorem xov (H : Nat → Option AO) : applyU H [] = H := _root_.id rfl
theorem xmt (H : Nat → Option AO) (l : Nat) (o : Option AO) (us : Upds) : applyU H ((l, o) :: us) = applyU (upd H l o) us := _root_.id rfl
theorem ev_tmp (T : Nat → AV) (t : Tmp) : ev T (.tmp t) = T t := _root_.id rfl
theorem x3z (T : Nat → AV) (v : Value) : ev T (.const v) = xzf v := _root_.id rfl
theorem xbt (k : IntKind) (n : Int) : xzf (.int k n) = .val (.int k n) := _root_.id rfl
theorem xtr (b : Bool) : xzf (.bool b) = .val (.bool b) := _root_.id rfl
theorem x9t (s : ByteArray) : xzf (.string s) = .val (.string s) := _root_.id rfl
theorem xer (a : Option Addr) (l c : Nat) : xzf (.slice a l c) = .val (.slice a l c) := _root_.id rfl
def convA (P : Program) (S D : TypeId) (x : AV) : Option AV := match P.underlying S with
  | some _ => match x with
    | .val (.int _ n) => (intOfT P D).map fun k' => .val (.int k' (k'.wrap n))
    | .val (.string s) => match kindOf P D with
      | .str => some (.val (.string s))
      | _ => none
    | .sl sz xs => if sz = 1 then xud P S D xs else none
    | _ => none
  | none => none
def convE (P : Program) (S D : TypeId) (x : AV) : Option (AV × Upds) := (convA P S D x).map fun v => (v, [])
def convV (P : Program) (S D : TypeId) (V : Nat → Option AO) (x : AV) : Option (AV × Upds) := match x with
  | .msl l n => (xlg P S D V l n).map fun v => (v, [])
  | x => convE P S D x
def convM (P : Program) (S D : TypeId) (o : Option AO) (n : Nat) : Option (AV × Upds) := match o with
  | some (.row _ s xs) => if s = 1 ∧ n = xs.length then convE P S D (.sl 1 xs) else none
  | _ => none
theorem xgx (P : Program) (V : Nat → Option AO) (new : Nat) (ρ : Operand → AV) (S D : TypeId) (x : Operand) : evalOp P (.convert S D x) V new ρ = convV P S D V (ρ x) := by
  simp only [evalOp, x9b]
  generalize ρ x = y
  cases y <;> rfl
theorem CV_val (P : Program) (V : Nat → Option AO) (S D : TypeId) (v : Value) : convV P S D V (.val v) = convE P S D (.val v) := _root_.id rfl
theorem xpy {P : Program} {S D : TypeId} {xs : List AV} {v : AV} (h : xud P S D xs = some v) : convA P S D (.sl 1 xs) = some v := by
  unfold convA
  have : ∃ k, P.underlying S = some k := by
    unfold xud at h
    split at h
    · rename_i e hS hD; exact ⟨_, hS⟩
    · cases h
  obtain ⟨k, hk⟩ := this
  rw [hk]
  simp only [if_true, h]
theorem CV_msl (P : Program) (V : Nat → Option AO) (S D : TypeId) (l n : Nat) : convV P S D V (.msl l n) = convM P S D (V l) n := by
  show (xlg P S D V l n).map (fun v => (v, ([] : Upds))) = _
  unfold xlg
  cases V l with
  | none => rfl
  | some o =>
    cases o with
    | row T s xs =>
      by_cases h : s = 1 ∧ n = xs.length
      · simp only [if_pos h, convM, convE]
        cases hb : xud P S D xs with
        | none =>
          have : convA P S D (.sl 1 xs) = none := by
            unfold convA
            split
            · simp only [if_true, hb]
            · rfl
          rw [this]
        | some v => rw [xpy hb]
      · simp only [if_neg h, convM]
        rfl
    | _ => rfl
theorem CM_row (P : Program) (S D T s n : Nat) (xs : List AV) : convM P S D (some (.row T s xs)) n = if s = 1 ∧ n = xs.length then convE P S D (.sl 1 xs) else none := _root_.id rfl
theorem xch {P : Program} {S D : TypeId} {k k' : IntKind} (n : Int) (hS : (P.underlying S).isSome = true) (hD : intOfT P D = some k') : convE P S D (.val (.int k n)) = some (.val (.int k' (k'.wrap n)), []) := by
  obtain ⟨d, hd⟩ := Option.isSome_iff_exists.1 hS
  simp [convE, convA, hd, hD]
def x6c (l : List UInt8) : ByteArray := ⟨l.toArray⟩
theorem xso : ∀ l : List UInt8, xih (l.map u8) = some (l.map fun b => (b.toNat : Int))
  | [] => rfl
  | b :: l => by simp only [List.map_cons, xih, xso l]; rfl
theorem x7h {P : Program} {S D e : TypeId} (l : List UInt8) (hS : P.underlying S = some (.slice e)) (he : P.underlying e = some (.int .u8)) (hD : P.underlying D = some .string) : convE P S D (.sl 1 (l.map u8)) = some (str (x6c l), []) := by
  have : strOfNums (l.map fun b => (b.toNat : Int)) = x6c l := by
    unfold strOfNums x6c
    rw [List.map_map]
    congr 2
    conv => rhs; rw [← List.map_id l]
    exact List.map_congr_left fun b _ => by simp
  simp only [convE, convA, hS, if_true, xud, hD, he, xso, Option.map_some, this]
def wB (n : Int) : UInt8 := UInt8.ofNat (IntKind.u8.wrap n).toNat
theorem u8w (n : Int) : (AV.val (.int .u8 (IntKind.u8.wrap n))) = u8 (wB n) := by
  have h1 : 0 ≤ IntKind.u8.wrap n ∧ IntKind.u8.wrap n < 256 := by
    simp only [IntKind.wrap, IntKind.signed, IntKind.bits]
    simp
    omega
  have : ((wB n).toNat : Int) = IntKind.u8.wrap n := by
    unfold wB
    simp
    omega
  simp only [u8, this]
section
variable (P : Program) (V : Nat → Option AO) (new : Nat) (ρ : Operand → AV)
theorem E_move (x : Operand) : evalOp P (.move x) V new ρ = some (ρ x, []) := _root_.id rfl
theorem xvy (x : Operand) : evalOp P (.assign x) V new ρ = some (ρ x, []) := _root_.id rfl
def pickK (c x y : AV) : Option (AV × Upds) := match c with
  | .val (.bool t) => some (if t = true then x else y, [])
  | _ => none
theorem E_pick (c x y : Operand) : evalOp P (.pick c x y) V new ρ = pickK (ρ c) (ρ x) (ρ y) := by
  simp only [evalOp, x9b, pickK]
  generalize ρ c = z
  cases z with
  | val v => cases v <;> rfl
  | _ => rfl
theorem xw1 (x y : AV) : pickK (bool true) x y = some (x, []) := _root_.id rfl
theorem xl1 (x y : AV) : pickK (bool false) x y = some (y, []) := _root_.id rfl
def allocK (new T : Nat) : Option (Bool × Nat) → Option AV → Option (AV × Upds)
  | some (_, n), some z => if xn z n = true then some (.loc new n 0 0, [(new, some (.row T n [z]))]) else none
  | _, _ => none
theorem xbn (T : TypeId) : evalOp P (.alloc T) V new ρ = allocK new T (aggN P T) (zeroOf P T) := by
  simp only [evalOp, xvh]; rfl
theorem xph (T : Nat) (b : Bool) (n : Nat) (z : AV) : allocK new T (some (b, n)) (some z) = if xn z n = true then some (.loc new n 0 0, [(new, some (.row T n [z]))]) else none := _root_.id rfl
def boxK (new T : Nat) (x : AV) : Option (Bool × Nat) → Option (AV × Upds)
  | some (_, n) => if xn x n = true then some (.loc new n 0 0, [(new, some (.row T n [x]))]) else none
  | none => none
theorem E_box (T : TypeId) (x : Operand) : evalOp P (.box T x) V new ρ = boxK new T (ρ x) (aggN P T) := by
  simp only [evalOp, xtj, boxK]; split <;> simp_all
theorem x0i (T : Nat) (x : AV) (b : Bool) (n : Nat) : boxK new T x (some (b, n)) = if xn x n = true then some (.loc new n 0 0, [(new, some (.row T n [x]))]) else none := _root_.id rfl
def xle (P : Program) (e len new : Nat) (ps : List (Nat × AV)) : Option (Bool × Nat) → Option AV → Option (AV × Upds)
  | some (_, n), some z => if xn z n = true ∧ len * n ≤ 16777216 ∧ 0 < n then (setsA n (List.replicate len z) ps).map fun xs => (.msl new len, [(new, some (.row e n xs))]) else none
  | _, _ => none
theorem xff (T len : Nat) (parts : Array (Nat × Operand)) (e : TypeId) (he : xz P T = some e) :
    evalOp P (.buildSlice T len parts) V new ρ = xle P e len new (parts.toList.map fun p => (p.1, ρ p.2)) (aggN P e) (zeroOf P e) := by
  simp only [evalOp, xpe, he, xle]; rfl
theorem E_load (T : TypeId) (a : Operand) : evalOp P (.load T a) V new ρ = (xsd P T V (ρ a)).map fun v => (v, []) := _root_.id rfl
theorem xm2 (T : TypeId) (a x : Operand) : evalOp P (.store T a x) V new ρ = (xqc P T V (ρ a) (ρ x)).map fun us => (.val undef, us) := _root_.id rfl
theorem x8y (s x : Operand) (t : TypeId) : evalOp P (.call (Call.mk (.builtin .append) #[s, x] #[t, t])) V new ρ = xtf P t V (ρ s) (ρ x) new := by
  simp [evalOp]
theorem E_len (x : Operand) (T : TypeId) : evalOp P (.call (Call.mk (.builtin .len) #[x] #[T])) V new ρ = (xdd P T (ρ x)).map fun v => (v, []) := by
  simp [evalOp, x9b]
theorem xw0 (T : TypeId) (parts : Array (Nat × Operand)) : evalOp P (.build T parts) V new ρ = (xnc P T (parts.toList.map fun p => (p.1, ρ p.2))).map fun v => (v, []) := _root_.id rfl
def nilK (x : AV) : Option (AV × Upds) := match x with
  | .loc l sz i off => some (.loc l sz i off, [])
  | .ptr y off => some (.ptr y off, [])
  | .fn (.func f) a b => some (.fn (.func f) a b, [])
  | _ => none
theorem xuv (x : Operand) : evalOp P (.nilCheck x) V new ρ = nilK (ρ x) := by
  simp only [evalOp, x9b, nilK]
  generalize ρ x = z
  cases z with
  | val v => rfl
  | fn f a b => cases f <;> rfl
  | _ => rfl
theorem xiz (l sz i off : Nat) : nilK (.loc l sz i off) = some (.loc l sz i off, []) := _root_.id rfl
def binK (P : Program) (op : BinOp) (T : TypeId) (x y : AV) : Option (AV × Upds) := match y with
  | .val .nilIface => none
  | v => (xkb P op T x v).map fun v => (v, [])
theorem E_bin (op : BinOp) (T yT : TypeId) (x : Operand) (t : Tmp) : evalOp P (.binOp op T x (.tmp t) yT) V new ρ = binK P op T (ρ x) (ρ (.tmp t)) := by
  simp only [evalOp, x9b, binK]
  generalize ρ (.tmp t) = z
  cases z with
  | val v => cases v <;> rfl
  | _ => rfl
theorem E_binI (op : BinOp) (T yT : TypeId) (x : Operand) (k : IntKind) (n : Int) : evalOp P (.binOp op T x (.const (.int k n)) yT) V new ρ = binK P op T (ρ x) (ρ (.const (.int k n))) := by
  simp only [evalOp, x9b, binK]
  generalize ρ (.const (.int k n)) = z
  cases z with
  | val v => cases v <;> rfl
  | _ => rfl
theorem E_binS (op : BinOp) (T yT : TypeId) (x : Operand) (s : ByteArray) : evalOp P (.binOp op T x (.const (.string s)) yT) V new ρ = binK P op T (ρ x) (ρ (.const (.string s))) := by
  simp only [evalOp, x9b, binK]
  generalize ρ (.const (.string s)) = z
  cases z with
  | val v => cases v <;> rfl
  | _ => rfl
theorem E_binN (op : BinOp) (T yT : TypeId) (x : Operand) : evalOp P (.binOp op T x (.const .nilIface) yT) V new ρ = (xkb P op T (ρ x) (.val .nilIface)).map fun v => (v, []) := _root_.id rfl
section
variable (k : IntKind) (a b : Int) (T : TypeId)
theorem B_add : binK P .add T (.val (.int k a)) (.val (.int k b)) = some (.val (.int k (k.wrap (a + b))), []) := by simp [binK, xkb, xnd]
theorem B_sub : binK P .sub T (.val (.int k a)) (.val (.int k b)) = some (.val (.int k (k.wrap (a - b))), []) := by simp [binK, xkb, xnd]
theorem B_mul : binK P .mul T (.val (.int k a)) (.val (.int k b)) = some (.val (.int k (k.wrap (a * b))), []) := by simp [binK, xkb, xnd]
theorem B_quo : binK P .quo T (.val (.int k a)) (.val (.int k b)) = if b = 0 then none else some (.val (.int k (k.wrap (a.tdiv b))), []) := by
  by_cases h : b = 0 <;> simp [binK, xkb, xnd, h]
theorem B_rem : binK P .rem T (.val (.int k a)) (.val (.int k b)) = if b = 0 then none else some (.val (.int k (a.tmod b)), []) := by
  by_cases h : b = 0 <;> simp [binK, xkb, xnd, h]
theorem B_eql : binK P .eql T (.val (.int k a)) (.val (.int k b)) = tstR (a = b) := by simp [binK, xkb, xnd, tstR]; rfl
theorem B_neq : binK P .neq T (.val (.int k a)) (.val (.int k b)) = tstR (¬ a = b) := by
  simp only [binK, xkb, xnd, tstR]
  by_cases h : a = b <;> simp [h]
theorem B_lss : binK P .lss T (.val (.int k a)) (.val (.int k b)) = tstR (a < b) := by simp [binK, xkb, xnd, tstR]
theorem B_leq : binK P .leq T (.val (.int k a)) (.val (.int k b)) = tstR (a ≤ b) := by simp [binK, xkb, xnd, tstR]
theorem B_gtr : binK P .gtr T (.val (.int k a)) (.val (.int k b)) = tstR (b < a) := by simp [binK, xkb, xnd, tstR]
theorem B_geq : binK P .geq T (.val (.int k a)) (.val (.int k b)) = tstR (b ≤ a) := by simp [binK, xkb, xnd, tstR]
variable (s t : ByteArray)
theorem xdj : (s == t) = decide (s = t) := by
  rw [beq_toListBytes, ByteArray.toList_eq, ByteArray.toList_eq]
  obtain ⟨⟨x⟩⟩ := s
  obtain ⟨⟨y⟩⟩ := t
  by_cases h : x = y
  · subst h; simp
  · have : ¬ (ByteArray.mk ⟨x⟩ = ByteArray.mk ⟨y⟩) := fun e => h (by injection e with e; injection e)
    simp [h, this]
theorem S_eql : binK P .eql T (.val (.string s)) (.val (.string t)) = tstR (s = t) := by simp [binK, xkb, xqj, xdj, tstR]
theorem S_neq : binK P .neq T (.val (.string s)) (.val (.string t)) = tstR (¬ s = t) := by simp [binK, xkb, xqj, xdj, tstR]
theorem S_add : binK P .add T (.val (.string s)) (.val (.string t)) = if s.size + t.size ≤ 9223372036854775807 then some (.val (.string (s ++ t)), []) else none := by
  by_cases h : s.size + t.size ≤ 9223372036854775807 <;> simp [binK, xkb, xqj, h]
end
def notK (x : AV) : Option (AV × Upds) := match x with
  | .val (.bool b) => some (.val (.bool !b), [])
  | _ => none
theorem E_not (T : TypeId) (x : Operand) : evalOp P (.unOp .not T x) V new ρ = notK (ρ x) := by
  simp only [evalOp, x9b, notK]
  generalize ρ x = z
  cases z with
  | val v => cases v <;> rfl
  | _ => rfl
def negK (x : AV) : Option (AV × Upds) := match x with
  | .val (.int k n) => some (.val (.int k (k.wrap (0 - n))), [])
  | _ => none
theorem E_neg (T : TypeId) (x : Operand) : evalOp P (.unOp .neg T x) V new ρ = negK (ρ x) := by
  simp only [evalOp, x9b, negK]
  generalize ρ x = z
  cases z with
  | val v => cases v <;> rfl
  | _ => rfl
theorem negK_i (k : IntKind) (n : Int) : negK (.val (.int k n)) = some (.val (.int k (k.wrap (0 - n))), []) := _root_.id rfl
theorem notK_b (b : Bool) : notK (bool b) = some (bool !b, []) := _root_.id rfl
theorem xjt (T : TypeId) (x : Operand) (f : Nat) : evalOp P (.fieldAddr T x f) V new ρ = (xo P T f (ρ x)).map fun v => (v, []) := _root_.id rfl
theorem xot (T : TypeId) (x i : Operand) : evalOp P (.indexAddr T x i) V new ρ = (xjb P T (ρ x) (ρ i)).map fun v => (v, []) := _root_.id rfl
theorem xo1 (T : TypeId) (x i : Operand) : evalOp P (.index T x i) V new ρ = (xkf P T (ρ x) (ρ i)).map fun v => (v, []) := _root_.id rfl
theorem xf0 (ρ : Operand → AV) (x : Operand) : opt ρ (some x) = some (ρ x) := _root_.id rfl
theorem x1y (ρ : Operand → AV) : opt ρ none = none := _root_.id rfl
theorem xx0 (T : TypeId) (x : Operand) (lo hi mx : Option Operand) : evalOp P (.slice T x lo hi mx) V new ρ = (x9d P T (ρ x) (opt ρ lo) (opt ρ hi) (opt ρ mx)).map fun v => (v, []) := _root_.id rfl
def xzs (x : AV) (i : Nat) : Option AV := match x with
  | .tup vs => vs[i]?
  | _ => none
theorem x6w (x : Operand) (i : Nat) : evalOp P (.extract x i) V new ρ = (xzs (ρ x) i).map fun v => (v, []) := _root_.id rfl
theorem x7r (vs : List AV) (i : Nat) : xzs (.tup vs) i = vs[i]? := _root_.id rfl
end
section
variable (P : Program)
theorem xr {T f o ft n : Nat} {b : Bool} (h : xlb P T f = some (o, ft)) (h2 : aggN P ft = some (b, n)) (hn : n ≠ 0) (l sz i off : Nat) : xo P T f (.loc l sz i off) = some (.loc l sz i (off + o)) := by
  simp [xo, h, h2, hn]
theorem xti {T e s : Nat} {b : Bool} (h : xz P T = some e) (h2 : aggN P e = some (b, s)) (xs : List AV) (k : IntKind) (n : Int) :
    xjb P T (.sl s xs) (.val (.int k n)) = if 0 ≤ n then (xs[n.toNat]?).map fun z => .ptr z 0 else none := by
  simp [xjb, h, h2]
theorem xgr {T e s : Nat} {b : Bool} (h : xz P T = some e) (h2 : aggN P e = some (b, s)) (l len : Nat) (k : IntKind) (n : Int) :
    xjb P T (.msl l len) (.val (.int k n)) = if 0 ≤ n ∧ n < len then some (.loc l s n.toNat 0) else none := by
  simp [xjb, h, h2]
theorem xzp {T e s len : Nat} {b : Bool} (h0 : xz P T = none) (h : arrOfT P T = some (len, e)) (h2 : aggN P e = some (b, s)) (l sz i off : Nat) (k : IntKind) (n : Int) :
    xjb P T (.loc l sz i off) (.val (.int k n)) = if 0 ≤ n ∧ n < len then some (.loc l sz i (off + n.toNat * s)) else none := by
  simp [xjb, h0, h, h2]
theorem xiw {T : Nat} (h : kindOf P T = .str) (s : ByteArray) (k : IntKind) (n : Int) : xkf P T (.val (.string s)) (.val (.int k n)) = if 0 ≤ n then (s[n.toNat]?).map fun b => u8 b else none := by
  simp [xkf, h]
theorem len_sl {T e : Nat} (h : xz P T = some e) (sz : Nat) (xs : List AV) : xdd P T (.sl sz xs) = some (int xs.length) := by simp [xdd, h]
theorem xi2 {T e : Nat} (h : xz P T = some e) (l n : Nat) : xdd P T (.msl l n) = some (int n) := by simp [xdd, h]
theorem xh2 {T : Nat} (h : kindOf P T = .str) (s : ByteArray) : xdd P T (.val (.string s)) = some (int s.size) := by simp [xdd, h]
theorem xb0 (T : TypeId) (V : Nat → Option AO) (y : AV) (off : Nat) : xsd P T V (.ptr y off) = evalLd P T y off := _root_.id rfl
def rowAt (o : Option AO) (sz i : Nat) : Option AV := match o with
  | some (.row _ sz' xs) => if sz = sz' then xs[i]? else none
  | _ => none
theorem xi0 (T : TypeId) (V : Nat → Option AO) (l sz i off : Nat) : xsd P T V (.loc l sz i off) = (rowAt (V l) sz i).bind fun y => evalLd P T y off := by
  simp only [xsd, rowAt]
  cases V l with
  | none => rfl
  | some o =>
    cases o with
    | row T' sz' xs =>
      by_cases e : sz = sz'
      · simp only [e, if_true]; cases xs[i]? <;> rfl
      · simp [e]
    | map ks vs => rfl
    | siter s p => rfl
    | mapb bs ck ks vs => rfl
theorem xwx (T sz i : Nat) (xs : List AV) : rowAt (some (.row T sz xs)) sz i = xs[i]? := by simp [rowAt]
theorem ld_agg {T n : Nat} (h : aggN P T = some (true, n)) (y : AV) (off : Nat) : evalLd P T y off = ldAgg y off n := by simp [evalLd, h]
theorem ld_one {T n : Nat} (h : aggN P T = some (false, n)) (y : AV) (off : Nat) : evalLd P T y off = ldOne y off := by simp [evalLd, h]
theorem xxt (cs : List AV) (n : Nat) (h : cs.length = n) : ldAgg (.agg cs) 0 n = some (.agg cs) := by simp [ldAgg, h]
theorem xrx (cs : List AV) (off : Nat) : ldOne (.agg cs) off = cs[off]? := _root_.id rfl
theorem xwu (b : Bool) : ldOne (.val (.bool b)) 0 = some (.val (.bool b)) := _root_.id rfl
theorem xvx (b : ByteArray) : ldOne (.val (.string b)) 0 = some (.val (.string b)) := _root_.id rfl
def rowT (o : Option AO) (sz i : Nat) : Option (Nat × List AV × AV) := match o with
  | some (.row T sz' xs) => if sz = sz' then (xs[i]?).map fun x => (T, xs, x) else none
  | _ => none
theorem xef {T n : Nat} {b : Bool} (h : aggN P T = some (b, n)) (V : Nat → Option AO) (l sz i off : Nat) (v : AV) :
    xqc P T V (.loc l sz i off) v = if xn v n = true then (rowT (V l) sz i).bind fun p => (stAV p.2.2 off v).map fun x' => [(l, some (.row p.1 sz (p.2.1.set i x')))] else none := by
  unfold xqc rowT
  simp only [h]
  split
  · cases V l with
    | none => rfl
    | some o =>
      cases o with
      | row T' sz' xs =>
        by_cases e : sz = sz'
        · subst e
          simp only [if_true]
          cases xs[i]? <;> rfl
        · simp [e]
      | map ks vs => rfl
      | siter s p => rfl
      | mapb bs ck ks vs => rfl
  · rfl
theorem x9z (T sz i : Nat) (xs : List AV) : rowT (some (.row T sz xs)) sz i = (xs[i]?).map fun x => (T, xs, x) := by simp [rowT]
theorem xyv {α β : Type} (a : α) (f : α → Option β) : (some a).bind f = f a := _root_.id rfl
theorem x9x (cs vs : List AV) (h : vs.length = cs.length) : stAV (.agg cs) 0 (.agg vs) = some (.agg vs) := by simp [stAV, h]
end
end Go.Proofs.YtjmnoaoeediodaaDoor.AL

