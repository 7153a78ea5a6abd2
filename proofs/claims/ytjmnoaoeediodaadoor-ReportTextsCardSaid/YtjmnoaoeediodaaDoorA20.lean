/- A law of the given program is proved: part 20 of 40. -/
import Derived.Test.YtjmnoaoeediodaaDoorA19
set_option linter.all false
/- AL: the evaluator's equations, in the forms that the walks' simp uses. -/
set_option linter.unusedSimpArgs false
namespace Go.Proofs.YtjmnoaoeediodaaDoor.AL
abbrev int (n : Int) : AV := .val (.int .i64 n)
abbrev str (s : ByteArray) : AV := .val (.string s)
abbrev bool (b : Bool) : AV := .val (.bool b)
abbrev nilS : AV := .val (.slice none 0 0)
abbrev u8 (b : UInt8) : AV := .val (.int .u8 (b.toNat : Int))
theorem x3s {α : Type} (a : α) (k : α → Prop) : Got (some a) k = k a := by simp [Got]
theorem argT_0 (x : AV) (xs : List AV) : argT (x :: xs) 0 = x := _root_.id rfl
theorem argT_1 (x y : AV) (xs : List AV) : argT (x :: y :: xs) 1 = y := _root_.id rfl
theorem argT_2 (x y z : AV) (xs : List AV) : argT (x :: y :: z :: xs) 2 = z := _root_.id rfl
theorem hs_int (k : IntKind) (n : Int) : xh (.val (.int k n)) 1 = true := _root_.id rfl
theorem hs_str (s : ByteArray) : xh (.val (.string s)) 1 = true := _root_.id rfl
theorem hs_msl (l n : Nat) : xh (.msl l n) 1 = true := _root_.id rfl
theorem hs_loc (a b c d : Nat) : xh (.loc a b c d) 1 = true := _root_.id rfl
theorem hs_agg (cs : List AV) (n : Nat) : xh (.agg cs) n = (cs.length == n && cs.all AV.one) := _root_.id rfl
theorem xhs (x : AV) (xs : List AV) : (x :: xs).all AV.one = (x.one && xs.all AV.one) := _root_.id rfl
theorem x4t : ([] : List AV).all AV.one = true := _root_.id rfl
theorem x1t (k : IntKind) (n : Int) : AV.one (.val (.int k n)) = true := _root_.id rfl
theorem x3t (a b c d : Nat) : AV.one (.loc a b c d) = true := _root_.id rfl
def fillK (v : AV) (place : Nat → Option (Nat × Nat)) (cells : List AV) (rest : List (Nat × AV)) (o : Option (Nat × Nat)) : Option (List AV) := match o with
  | none => none
  | some (off, size) => if xh v size = true ∧ off + size ≤ cells.length then fillA place (splice cells off v.cells) rest else none
theorem xdr (place : Nat → Option (Nat × Nat)) (cells : List AV) : fillA place cells [] = some cells := _root_.id rfl
theorem xoo (place : Nat → Option (Nat × Nat)) (cells : List AV) (i : Nat) (v : AV) (rest : List (Nat × AV)) : fillA place cells ((i, v) :: rest) = fillK v place cells rest (place i) := by
  simp only [fillA, fillK]
  cases place i <;> rfl
theorem xko (v : AV) (place : Nat → Option (Nat × Nat)) (cells : List AV) (rest : List (Nat × AV)) (off size : Nat) : fillK v place cells rest (some (off, size)) = if xh v size = true ∧ off + size ≤ cells.length then fillA place (splice cells off v.cells) rest else none := _root_.id rfl
theorem xsp (cs : List AV) (off : Nat) (vs : List AV) : splice cs off vs = cs.take off ++ vs ++ cs.drop (off + vs.length) := _root_.id rfl
theorem xyo (v : Value) : AV.cells (.val v) = [.val v] := _root_.id rfl
theorem xaq (s n : Nat) : AV.cells (.msl s n) = [.msl s n] := _root_.id rfl
theorem xrq (a b c d : Nat) : AV.cells (.loc a b c d) = [.loc a b c d] := _root_.id rfl
def guardV (v : AV) (w : Bool) (y n : Prop) : Prop :=
  match v with
  | .val (.bool b) => (b = w → y) ∧ (¬ b = w → n)
  | .val _ => n
  | _ => False
theorem xdl (y n : Prop) : guardV (bool true) true y n = y := by simp [guardV]
theorem xhl (y n : Prop) : guardV (bool true) false y n = n := by simp [guardV]
theorem xjl (y n : Prop) : guardV (bool false) true y n = n := by simp [guardV]
theorem xml (y n : Prop) : guardV (bool false) false y n = y := by simp [guardV]
def tstR (p : Prop) [Decidable p] : Option (AV × Upds) := some (.val (.bool (decide p)), [])
def brR (b : Bool) : Option (AV × Upds) := some (.val (.bool b), [])
theorem tstR_t : tstR True = some (bool true, []) := _root_.id rfl
theorem tstR_f : tstR False = some (bool false, []) := _root_.id rfl
theorem brR_t : brR true = some (bool true, []) := _root_.id rfl
theorem brR_f : brR false = some (bool false, []) := _root_.id rfl
section
variable (P : Program) (nx0 i : Nat) (op : Op) (d : Option Tmp) (rest : List O1) (T : Nat → AV) (H : Nat → Option AO) (nx : Nat) (K : AS → Prop)
def stepR (x : Option (AV × Upds)) : Prop := Got x fun p => wps1 P nx0 (i + 1) rest ⟨putA T d p.1, applyU H p.2, nx⟩ K
def callR : Prop := Sem1 P op H nx (nx0 + i) (ev T) fun v H' nx' => wps1 P nx0 (i + 1) rest ⟨putA T d v, H', nx'⟩ K
def opR (c : Bool) : Prop := if c = true then callR P nx0 i op d rest T H nx K else stepR P nx0 i d rest T H nx K (evalOp P op H (nx0 + i) (ev T))
def gR (v : AV) (w : Bool) : Prop := guardV v w (opR P nx0 i op d rest T H nx K (isCall op)) (wps1 P nx0 (i + 1) rest ⟨putA T d (.val undef), H, nx⟩ K)
theorem xds (s : AS) : wps1 P nx0 i [] s K = K s := _root_.id rfl
theorem xvp : wps1 P nx0 i (⟨op, d, none⟩ :: rest) ⟨T, H, nx⟩ K = opR P nx0 i op d rest T H nx K (isCall op) := _root_.id rfl
theorem xyp (g : Tmp) (w : Bool) : wps1 P nx0 i (⟨op, d, some (g, w)⟩ :: rest) ⟨T, H, nx⟩ K = gR P nx0 i op d rest T H nx K (T g) w := _root_.id rfl
theorem opR_t : opR P nx0 i op d rest T H nx K true = callR P nx0 i op d rest T H nx K := _root_.id rfl
theorem opR_f : opR P nx0 i op d rest T H nx K false = stepR P nx0 i d rest T H nx K (evalOp P op H (nx0 + i) (ev T)) := _root_.id rfl
theorem gR_tt : gR P nx0 i op d rest T H nx K (bool true) true = opR P nx0 i op d rest T H nx K (isCall op) := xdl _ _
theorem gR_ff : gR P nx0 i op d rest T H nx K (bool false) false = opR P nx0 i op d rest T H nx K (isCall op) := xml _ _
theorem gR_tf : gR P nx0 i op d rest T H nx K (bool true) false = wps1 P nx0 (i + 1) rest ⟨putA T d (.val undef), H, nx⟩ K := xhl _ _
theorem gR_ft : gR P nx0 i op d rest T H nx K (bool false) true = wps1 P nx0 (i + 1) rest ⟨putA T d (.val undef), H, nx⟩ K := xjl _ _
theorem xbs (w : Bool) : gR P nx0 i op d rest T H nx K (.val undef) w = wps1 P nx0 (i + 1) rest ⟨putA T d (.val undef), H, nx⟩ K := _root_.id rfl
theorem xso (v : AV) (us : Upds) : stepR P nx0 i d rest T H nx K (some (v, us)) = wps1 P nx0 (i + 1) rest ⟨putA T d v, applyU H us, nx⟩ K := by simp [stepR, Got]
theorem xzq (p : Prop) [Decidable p] : stepR P nx0 i d rest T H nx K (tstR p) = ((p → wps1 P nx0 (i + 1) rest ⟨putA T d (bool true), H, nx⟩ K) ∧ (¬ p → wps1 P nx0 (i + 1) rest ⟨putA T d (bool false), H, nx⟩ K)) := by
  by_cases h : p <;> simp [stepR, Got, tstR, h, applyU]
theorem xup (c : Prop) [Decidable c] (x : Option (AV × Upds)) : stepR P nx0 i d rest T H nx K (if c then x else none) = (c ∧ stepR P nx0 i d rest T H nx K x) := by
  by_cases h : c <;> simp [stepR, Got, h]
variable (B : List Nat) (rd : List Bool)
def stepD (x : Option (AV × Upds)) : Prop := Got x fun p => wpsD1 P B rd nx0 (i + 1) rest ⟨putA T d p.1, applyU H p.2, nx⟩ K
def callD : Prop := ∃ v, OpS1 P op (viewD nx0 (B.getD i 0) (rd.getD i false) H) (ev T) (nx0 + i) v ∧ wpsD1 P B rd nx0 (i + 1) rest ⟨putA T d v, H, nx⟩ K
def opD (c : Bool) : Prop := if c = true then callD P nx0 i op d rest T H nx K B rd else stepD P nx0 i d rest T H nx K B rd (evalOp P op (viewD nx0 (B.getD i 0) (rd.getD i false) H) (nx0 + i) (ev T))
def gD (v : AV) (w : Bool) : Prop := guardV v w (opD P nx0 i op d rest T H nx K B rd (isCall op)) (wpsD1 P B rd nx0 (i + 1) rest ⟨putA T d (.val undef), H, nx⟩ K)
theorem xfq (s : AS) : wpsD1 P B rd nx0 i [] s K = K s := _root_.id rfl
theorem xro : wpsD1 P B rd nx0 i (⟨op, d, none⟩ :: rest) ⟨T, H, nx⟩ K = opD P nx0 i op d rest T H nx K B rd (isCall op) := _root_.id rfl
theorem xjo (g : Tmp) (w : Bool) : wpsD1 P B rd nx0 i (⟨op, d, some (g, w)⟩ :: rest) ⟨T, H, nx⟩ K = gD P nx0 i op d rest T H nx K B rd (T g) w := _root_.id rfl
theorem opD_t : opD P nx0 i op d rest T H nx K B rd true = callD P nx0 i op d rest T H nx K B rd := _root_.id rfl
theorem opD_f : opD P nx0 i op d rest T H nx K B rd false = stepD P nx0 i d rest T H nx K B rd (evalOp P op (viewD nx0 (B.getD i 0) (rd.getD i false) H) (nx0 + i) (ev T)) := _root_.id rfl
theorem gD_tt : gD P nx0 i op d rest T H nx K B rd (bool true) true = opD P nx0 i op d rest T H nx K B rd (isCall op) := xdl _ _
theorem gD_ff : gD P nx0 i op d rest T H nx K B rd (bool false) false = opD P nx0 i op d rest T H nx K B rd (isCall op) := xml _ _
theorem gD_tf : gD P nx0 i op d rest T H nx K B rd (bool true) false = wpsD1 P B rd nx0 (i + 1) rest ⟨putA T d (.val undef), H, nx⟩ K := xhl _ _
theorem gD_ft : gD P nx0 i op d rest T H nx K B rd (bool false) true = wpsD1 P B rd nx0 (i + 1) rest ⟨putA T d (.val undef), H, nx⟩ K := xjl _ _
theorem x6r (w : Bool) : gD P nx0 i op d rest T H nx K B rd (.val undef) w = wpsD1 P B rd nx0 (i + 1) rest ⟨putA T d (.val undef), H, nx⟩ K := _root_.id rfl
theorem xuo (v : AV) (us : Upds) : stepD P nx0 i d rest T H nx K B rd (some (v, us)) = wpsD1 P B rd nx0 (i + 1) rest ⟨putA T d v, applyU H us, nx⟩ K := by simp [stepD, Got]
theorem xhq (c : Prop) [Decidable c] (x : Option (AV × Upds)) : stepD P nx0 i d rest T H nx K B rd (if c then x else none) = (c ∧ stepD P nx0 i d rest T H nx K B rd x) := by
  by_cases h : c <;> simp [stepD, Got, h]
end
section
variable (P : Program) (nx0 i : Nat) (op : Op) (d : Option Tmp) (rest : List O1) (T : Nat → AV) (H : Nat → Option AO) (nx : Nat) (K : AS → Prop) (V W : List Nat) (VW : List (List Nat × List Nat))
end
theorem xeq (nx b : Nat) (H : Nat → Option AO) : viewD nx b false H = fun _ => none := _root_.id rfl
theorem x3r (nx b : Nat) (H : Nat → Option AO) (l : Nat) : viewD nx b true H l = if l < nx ∨ b.testBit (l - nx) = true then H l else none := _root_.id rfl
theorem xar (T : Nat → AV) (d : Tmp) (v : AV) : putA T (some d) v = upd T d v := _root_.id rfl
theorem x5q (T : Nat → AV) (v : AV) : putA T none v = T := _root_.id rfl
theorem x4o (H : Nat → Option AO) : applyU H [] = H := _root_.id rfl
theorem xsn (H : Nat → Option AO) (l : Nat) (o : Option AO) (us : Upds) : applyU H ((l, o) :: us) = applyU (upd H l o) us := _root_.id rfl
theorem ev_tmp (T : Nat → AV) (t : Tmp) : ev T (.tmp t) = T t := _root_.id rfl
theorem xls (T : Nat → AV) (v : Value) : ev T (.const v) = x0d v := _root_.id rfl
theorem xtn (k : IntKind) (n : Int) : x0d (.int k n) = .val (.int k n) := _root_.id rfl
theorem xkm (b : Bool) : x0d (.bool b) = .val (.bool b) := _root_.id rfl
theorem xrn (s : ByteArray) : x0d (.string s) = .val (.string s) := _root_.id rfl
theorem xul (a : Option Addr) (l c : Nat) : x0d (.slice a l c) = .val (.slice a l c) := _root_.id rfl
def convA (P : Program) (S D : TypeId) (x : AV) : Option AV := match P.underlying S with
  | some _ => match x with
    | .val (.int _ n) => (intOfT P D).map fun k' => .val (.int k' (k'.wrap n))
    | .val (.string s) => match kindOf P D with
      | .str => some (.val (.string s))
      | _ => none
    | .sl sz xs => if sz = 1 then xnc P S D xs else none
    | _ => none
  | none => none
def convE (P : Program) (S D : TypeId) (x : AV) : Option (AV × Upds) := (convA P S D x).map fun v => (v, [])
def convV (P : Program) (S D : TypeId) (V : Nat → Option AO) (x : AV) : Option (AV × Upds) := match x with
  | .msl l n => (xje P S D V l n).map fun v => (v, [])
  | x => convE P S D x
def convM (P : Program) (S D : TypeId) (o : Option AO) (n : Nat) : Option (AV × Upds) := match o with
  | some (.row _ s xs) => if s = 1 ∧ n = xs.length then convE P S D (.sl 1 xs) else none
  | _ => none
theorem xtq (P : Program) (V : Nat → Option AO) (new : Nat) (ρ : Operand → AV) (S D : TypeId) (x : Operand) : evalOp P (.convert S D x) V new ρ = convV P S D V (ρ x) := by
  simp only [evalOp, xhb]
  generalize ρ x = y
  cases y <;> rfl
theorem CV_val (P : Program) (V : Nat → Option AO) (S D : TypeId) (v : Value) : convV P S D V (.val v) = convE P S D (.val v) := _root_.id rfl
theorem xyr {P : Program} {S D : TypeId} {xs : List AV} {v : AV} (h : xnc P S D xs = some v) : convA P S D (.sl 1 xs) = some v := by
  unfold convA
  have : ∃ k, P.underlying S = some k := by
    unfold xnc at h
    split at h
    · rename_i e hS hD; exact ⟨_, hS⟩
    · cases h
  obtain ⟨k, hk⟩ := this
  rw [hk]
  simp only [if_true, h]
theorem CV_msl (P : Program) (V : Nat → Option AO) (S D : TypeId) (l n : Nat) : convV P S D V (.msl l n) = convM P S D (V l) n := by
  show (xje P S D V l n).map (fun v => (v, ([] : Upds))) = _
  unfold xje
  cases V l with
  | none => rfl
  | some o =>
    cases o with
    | row T s xs =>
      by_cases h : s = 1 ∧ n = xs.length
      · simp only [if_pos h, convM, convE]
        cases hb : xnc P S D xs with
        | none =>
          have : convA P S D (.sl 1 xs) = none := by
            unfold convA
            split
            · simp only [if_true, hb]
            · rfl
          rw [this]
        | some v => rw [xyr hb]
      · simp only [if_neg h, convM]
        rfl
    | _ => rfl
theorem CM_row (P : Program) (S D T s n : Nat) (xs : List AV) : convM P S D (some (.row T s xs)) n = if s = 1 ∧ n = xs.length then convE P S D (.sl 1 xs) else none := _root_.id rfl
theorem x1e {P : Program} {S D : TypeId} {k k' : IntKind} (n : Int) (hS : (P.underlying S).isSome = true) (hD : intOfT P D = some k') : convE P S D (.val (.int k n)) = some (.val (.int k' (k'.wrap n)), []) := by
  obtain ⟨d, hd⟩ := Option.isSome_iff_exists.1 hS
  simp [convE, convA, hd, hD]
def xyb (l : List UInt8) : ByteArray := ⟨l.toArray⟩
theorem x9j : ∀ l : List UInt8, xwe (l.map u8) = some (l.map fun b => (b.toNat : Int))
  | [] => rfl
  | b :: l => by simp only [List.map_cons, xwe, x9j l]; rfl
theorem xgf {P : Program} {S D e : TypeId} (l : List UInt8) (hS : P.underlying S = some (.slice e)) (he : P.underlying e = some (.int .u8)) (hD : P.underlying D = some .string) : convE P S D (.sl 1 (l.map u8)) = some (str (xyb l), []) := by
  have : strOfNums (l.map fun b => (b.toNat : Int)) = xyb l := by
    unfold strOfNums xyb
    rw [List.map_map]
    congr 2
    conv => rhs; rw [← List.map_id l]
    exact List.map_congr_left fun b _ => by simp
  simp only [convE, convA, hS, if_true, xnc, hD, he, x9j, Option.map_some, this]
def wB (n : Int) : UInt8 := UInt8.ofNat (IntKind.u8.wrap n).toNat
theorem u8w (n : Int) : (AV.val (.int .u8 (IntKind.u8.wrap n))) = u8 (wB n) := by
  have h1 : 0 ≤ IntKind.u8.wrap n ∧ IntKind.u8.wrap n < 256 := by
    simp only [IntKind.wrap, IntKind.signed, IntKind.bits]
    simp
    omega
  have : ((wB n).toNat : Int) = IntKind.u8.wrap n := by
    unfold wB
    simp
    omega
  simp only [u8, this]
section
variable (P : Program) (V : Nat → Option AO) (new : Nat) (ρ : Operand → AV)
theorem E_move (x : Operand) : evalOp P (.move x) V new ρ = some (ρ x, []) := _root_.id rfl
theorem xgr (x : Operand) : evalOp P (.assign x) V new ρ = some (ρ x, []) := _root_.id rfl
def pickK (c x y : AV) : Option (AV × Upds) := match c with
  | .val (.bool t) => some (if t = true then x else y, [])
  | _ => none
theorem E_pick (c x y : Operand) : evalOp P (.pick c x y) V new ρ = pickK (ρ c) (ρ x) (ρ y) := by
  simp only [evalOp, xhb, pickK]
  generalize ρ c = z
  cases z with
  | val v => cases v <;> rfl
  | _ => rfl
theorem xou (x y : AV) : pickK (bool true) x y = some (x, []) := _root_.id rfl
theorem xfu (x y : AV) : pickK (bool false) x y = some (y, []) := _root_.id rfl
def allocK (new T : Nat) : Option (Bool × Nat) → Option AV → Option (AV × Upds)
  | some (_, n), some z => if xh z n = true then some (.loc new n 0 0, [(new, some (.row T n [z]))]) else none
  | _, _ => none
theorem x9n (T : TypeId) : evalOp P (.alloc T) V new ρ = allocK new T (aggN P T) (zeroOf P T) := by
  simp only [evalOp, x9e]; rfl
theorem xhj (T : Nat) (b : Bool) (n : Nat) (z : AV) : allocK new T (some (b, n)) (some z) = if xh z n = true then some (.loc new n 0 0, [(new, some (.row T n [z]))]) else none := _root_.id rfl
def boxK (new T : Nat) (x : AV) : Option (Bool × Nat) → Option (AV × Upds)
  | some (_, n) => if xh x n = true then some (.loc new n 0 0, [(new, some (.row T n [x]))]) else none
  | none => none
theorem E_box (T : TypeId) (x : Operand) : evalOp P (.box T x) V new ρ = boxK new T (ρ x) (aggN P T) := by
  simp only [evalOp, xig, boxK]; split <;> simp_all
theorem x9k (T : Nat) (x : AV) (b : Bool) (n : Nat) : boxK new T x (some (b, n)) = if xh x n = true then some (.loc new n 0 0, [(new, some (.row T n [x]))]) else none := _root_.id rfl
def x2d (P : Program) (e len new : Nat) (ps : List (Nat × AV)) : Option (Bool × Nat) → Option AV → Option (AV × Upds)
  | some (_, n), some z => if xh z n = true ∧ len * n ≤ 16777216 ∧ 0 < n then (setsA n (List.replicate len z) ps).map fun xs => (.msl new len, [(new, some (.row e n xs))]) else none
  | _, _ => none
theorem xsf (T len : Nat) (parts : Array (Nat × Operand)) (e : TypeId) (he : xu P T = some e) :
    evalOp P (.buildSlice T len parts) V new ρ = x2d P e len new (parts.toList.map fun p => (p.1, ρ p.2)) (aggN P e) (zeroOf P e) := by
  simp only [evalOp, x6c, he, x2d]; rfl
theorem E_load (T : TypeId) (a : Operand) : evalOp P (.load T a) V new ρ = (xhc P T V (ρ a)).map fun v => (v, []) := _root_.id rfl
theorem xeu (T : TypeId) (a x : Operand) : evalOp P (.store T a x) V new ρ = (xkc P T V (ρ a) (ρ x)).map fun us => (.val undef, us) := _root_.id rfl
theorem xps (s x : Operand) (t : TypeId) : evalOp P (.call (Call.mk (.builtin .append) #[s, x] #[t, t])) V new ρ = xkg P t V (ρ s) (ρ x) new := by
  simp [evalOp]
theorem E_len (x : Operand) (T : TypeId) : evalOp P (.call (Call.mk (.builtin .len) #[x] #[T])) V new ρ = (x7c P T (ρ x)).map fun v => (v, []) := by
  simp [evalOp, xhb]
theorem xut (T : TypeId) (parts : Array (Nat × Operand)) : evalOp P (.build T parts) V new ρ = (xmc P T (parts.toList.map fun p => (p.1, ρ p.2))).map fun v => (v, []) := _root_.id rfl
def nilK (x : AV) : Option (AV × Upds) := match x with
  | .loc l sz i off => some (.loc l sz i off, [])
  | .ptr y off => some (.ptr y off, [])
  | .fn (.func f) a b => some (.fn (.func f) a b, [])
  | _ => none
theorem x7o (x : Operand) : evalOp P (.nilCheck x) V new ρ = nilK (ρ x) := by
  simp only [evalOp, xhb, nilK]
  generalize ρ x = z
  cases z with
  | val v => rfl
  | fn f a b => cases f <;> rfl
  | _ => rfl
theorem xes (l sz i off : Nat) : nilK (.loc l sz i off) = some (.loc l sz i off, []) := _root_.id rfl
def binK (P : Program) (op : BinOp) (T : TypeId) (x y : AV) : Option (AV × Upds) := match y with
  | .val .nilIface => none
  | v => (xt P op T x v).map fun v => (v, [])
theorem E_bin (op : BinOp) (T yT : TypeId) (x : Operand) (t : Tmp) : evalOp P (.binOp op T x (.tmp t) yT) V new ρ = binK P op T (ρ x) (ρ (.tmp t)) := by
  simp only [evalOp, xhb, binK]
  generalize ρ (.tmp t) = z
  cases z with
  | val v => cases v <;> rfl
  | _ => rfl
theorem E_binI (op : BinOp) (T yT : TypeId) (x : Operand) (k : IntKind) (n : Int) : evalOp P (.binOp op T x (.const (.int k n)) yT) V new ρ = binK P op T (ρ x) (ρ (.const (.int k n))) := by
  simp only [evalOp, xhb, binK]
  generalize ρ (.const (.int k n)) = z
  cases z with
  | val v => cases v <;> rfl
  | _ => rfl
theorem E_binS (op : BinOp) (T yT : TypeId) (x : Operand) (s : ByteArray) : evalOp P (.binOp op T x (.const (.string s)) yT) V new ρ = binK P op T (ρ x) (ρ (.const (.string s))) := by
  simp only [evalOp, xhb, binK]
  generalize ρ (.const (.string s)) = z
  cases z with
  | val v => cases v <;> rfl
  | _ => rfl
theorem E_binN (op : BinOp) (T yT : TypeId) (x : Operand) : evalOp P (.binOp op T x (.const .nilIface) yT) V new ρ = (xt P op T (ρ x) (.val .nilIface)).map fun v => (v, []) := _root_.id rfl
section
variable (k : IntKind) (a b : Int) (T : TypeId)
theorem B_add : binK P .add T (.val (.int k a)) (.val (.int k b)) = some (.val (.int k (k.wrap (a + b))), []) := by simp [binK, xt, xfc]
theorem B_sub : binK P .sub T (.val (.int k a)) (.val (.int k b)) = some (.val (.int k (k.wrap (a - b))), []) := by simp [binK, xt, xfc]
theorem B_mul : binK P .mul T (.val (.int k a)) (.val (.int k b)) = some (.val (.int k (k.wrap (a * b))), []) := by simp [binK, xt, xfc]
theorem B_quo : binK P .quo T (.val (.int k a)) (.val (.int k b)) = if b = 0 then none else some (.val (.int k (k.wrap (a.tdiv b))), []) := by
  by_cases h : b = 0 <;> simp [binK, xt, xfc, h]
theorem B_rem : binK P .rem T (.val (.int k a)) (.val (.int k b)) = if b = 0 then none else some (.val (.int k (a.tmod b)), []) := by
  by_cases h : b = 0 <;> simp [binK, xt, xfc, h]
theorem B_eql : binK P .eql T (.val (.int k a)) (.val (.int k b)) = tstR (a = b) := by simp [binK, xt, xfc, tstR]; rfl
theorem B_neq : binK P .neq T (.val (.int k a)) (.val (.int k b)) = tstR (¬ a = b) := by
  simp only [binK, xt, xfc, tstR]
  by_cases h : a = b <;> simp [h]
theorem B_lss : binK P .lss T (.val (.int k a)) (.val (.int k b)) = tstR (a < b) := by simp [binK, xt, xfc, tstR]
theorem B_leq : binK P .leq T (.val (.int k a)) (.val (.int k b)) = tstR (a ≤ b) := by simp [binK, xt, xfc, tstR]
theorem B_gtr : binK P .gtr T (.val (.int k a)) (.val (.int k b)) = tstR (b < a) := by simp [binK, xt, xfc, tstR]
theorem B_geq : binK P .geq T (.val (.int k a)) (.val (.int k b)) = tstR (b ≤ a) := by simp [binK, xt, xfc, tstR]
variable (s t : ByteArray)
theorem xpi : (s == t) = decide (s = t) := by
  rw [beq_toListBytes, ByteArray.toList_eq, ByteArray.toList_eq]
  obtain ⟨⟨x⟩⟩ := s
  obtain ⟨⟨y⟩⟩ := t
  by_cases h : x = y
  · subst h; simp
  · have : ¬ (ByteArray.mk ⟨x⟩ = ByteArray.mk ⟨y⟩) := fun e => h (by injection e with e; injection e)
    simp [h, this]
theorem S_eql : binK P .eql T (.val (.string s)) (.val (.string t)) = tstR (s = t) := by simp [binK, xt, xgg, xpi, tstR]
theorem S_neq : binK P .neq T (.val (.string s)) (.val (.string t)) = tstR (¬ s = t) := by simp [binK, xt, xgg, xpi, tstR]
theorem S_add : binK P .add T (.val (.string s)) (.val (.string t)) = if s.size + t.size ≤ 9223372036854775807 then some (.val (.string (s ++ t)), []) else none := by
  by_cases h : s.size + t.size ≤ 9223372036854775807 <;> simp [binK, xt, xgg, h]
end
def notK (x : AV) : Option (AV × Upds) := match x with
  | .val (.bool b) => some (.val (.bool !b), [])
  | _ => none
theorem E_not (T : TypeId) (x : Operand) : evalOp P (.unOp .not T x) V new ρ = notK (ρ x) := by
  simp only [evalOp, xhb, notK]
  generalize ρ x = z
  cases z with
  | val v => cases v <;> rfl
  | _ => rfl
def negK (x : AV) : Option (AV × Upds) := match x with
  | .val (.int k n) => some (.val (.int k (k.wrap (0 - n))), [])
  | _ => none
theorem E_neg (T : TypeId) (x : Operand) : evalOp P (.unOp .neg T x) V new ρ = negK (ρ x) := by
  simp only [evalOp, xhb, negK]
  generalize ρ x = z
  cases z with
  | val v => cases v <;> rfl
  | _ => rfl
theorem negK_i (k : IntKind) (n : Int) : negK (.val (.int k n)) = some (.val (.int k (k.wrap (0 - n))), []) := _root_.id rfl
theorem notK_b (b : Bool) : notK (bool b) = some (bool !b, []) := _root_.id rfl
theorem xun (T : TypeId) (x : Operand) (f : Nat) : evalOp P (.fieldAddr T x f) V new ρ = (xi P T f (ρ x)).map fun v => (v, []) := _root_.id rfl
theorem xen (T : TypeId) (x i : Operand) : evalOp P (.indexAddr T x i) V new ρ = (xdb P T (ρ x) (ρ i)).map fun v => (v, []) := _root_.id rfl
theorem xnt (T : TypeId) (x i : Operand) : evalOp P (.index T x i) V new ρ = (xpd P T (ρ x) (ρ i)).map fun v => (v, []) := _root_.id rfl
theorem x7r (ρ : Operand → AV) (x : Operand) : opt ρ (some x) = some (ρ x) := _root_.id rfl
theorem x8s (ρ : Operand → AV) : opt ρ none = none := _root_.id rfl
theorem xgt (T : TypeId) (x : Operand) (lo hi mx : Option Operand) : evalOp P (.slice T x lo hi mx) V new ρ = (xwc P T (ρ x) (opt ρ lo) (opt ρ hi) (opt ρ mx)).map fun v => (v, []) := _root_.id rfl
def xim (x : AV) (i : Nat) : Option AV := match x with
  | .tup vs => vs[i]?
  | _ => none
theorem xwp (x : Operand) (i : Nat) : evalOp P (.extract x i) V new ρ = (xim (ρ x) i).map fun v => (v, []) := _root_.id rfl
theorem xvm (vs : List AV) (i : Nat) : xim (.tup vs) i = vs[i]? := _root_.id rfl
end
section
variable (P : Program)
theorem x9 {T f o ft n : Nat} {b : Bool} (h : xjb P T f = some (o, ft)) (h2 : aggN P ft = some (b, n)) (hn : n ≠ 0) (l sz i off : Nat) : xi P T f (.loc l sz i off) = some (.loc l sz i (off + o)) := by
  simp [xi, h, h2, hn]
theorem xji {T e s : Nat} {b : Bool} (h : xu P T = some e) (h2 : aggN P e = some (b, s)) (xs : List AV) (k : IntKind) (n : Int) :
    xdb P T (.sl s xs) (.val (.int k n)) = if 0 ≤ n then (xs[n.toNat]?).map fun z => .ptr z 0 else none := by
  simp [xdb, h, h2]
theorem xwk {T e s len : Nat} {b : Bool} (h0 : xu P T = none) (h : arrOfT P T = some (len, e)) (h2 : aggN P e = some (b, s)) (l sz i off : Nat) (k : IntKind) (n : Int) :
    xdb P T (.loc l sz i off) (.val (.int k n)) = if 0 ≤ n ∧ n < len then some (.loc l sz i (off + n.toNat * s)) else none := by
  simp [xdb, h0, h, h2]
theorem x6q {T : Nat} (h : kindOf P T = .str) (s : ByteArray) (k : IntKind) (n : Int) : xpd P T (.val (.string s)) (.val (.int k n)) = if 0 ≤ n then (s[n.toNat]?).map fun b => u8 b else none := by
  simp [xpd, h]
theorem len_sl {T e : Nat} (h : xu P T = some e) (sz : Nat) (xs : List AV) : x7c P T (.sl sz xs) = some (int xs.length) := by simp [x7c, h]
theorem xgu {T : Nat} (h : kindOf P T = .str) (s : ByteArray) : x7c P T (.val (.string s)) = some (int s.size) := by simp [x7c, h]
theorem x4r (T : TypeId) (V : Nat → Option AO) (y : AV) (off : Nat) : xhc P T V (.ptr y off) = evalLd P T y off := _root_.id rfl
def rowAt (o : Option AO) (sz i : Nat) : Option AV := match o with
  | some (.row _ sz' xs) => if sz = sz' then xs[i]? else none
  | _ => none
theorem xvs (T : TypeId) (V : Nat → Option AO) (l sz i off : Nat) : xhc P T V (.loc l sz i off) = (rowAt (V l) sz i).bind fun y => evalLd P T y off := by
  simp only [xhc, rowAt]
  cases V l with
  | none => rfl
  | some o =>
    cases o with
    | row T' sz' xs =>
      by_cases e : sz = sz'
      · simp only [e, if_true]; cases xs[i]? <;> rfl
      · simp [e]
    | map ks vs => rfl
    | siter s p => rfl
    | mapb bs ck ks vs => rfl
theorem xxq (T sz i : Nat) (xs : List AV) : rowAt (some (.row T sz xs)) sz i = xs[i]? := by simp [rowAt]
theorem ld_agg {T n : Nat} (h : aggN P T = some (true, n)) (y : AV) (off : Nat) : evalLd P T y off = ldAgg y off n := by simp [evalLd, h]
theorem ld_one {T n : Nat} (h : aggN P T = some (false, n)) (y : AV) (off : Nat) : evalLd P T y off = ldOne y off := by simp [evalLd, h]
theorem xzn (cs : List AV) (n : Nat) (h : cs.length = n) : ldAgg (.agg cs) 0 n = some (.agg cs) := by simp [ldAgg, h]
theorem xmq (cs : List AV) (off : Nat) : ldOne (.agg cs) off = cs[off]? := _root_.id rfl
theorem xnq (b : ByteArray) : ldOne (.val (.string b)) 0 = some (.val (.string b)) := _root_.id rfl
def rowT (o : Option AO) (sz i : Nat) : Option (Nat × List AV × AV) := match o with
  | some (.row T sz' xs) => if sz = sz' then (xs[i]?).map fun x => (T, xs, x) else none
  | _ => none
theorem xai {T n : Nat} {b : Bool} (h : aggN P T = some (b, n)) (V : Nat → Option AO) (l sz i off : Nat) (v : AV) :
    xkc P T V (.loc l sz i off) v = if xh v n = true then (rowT (V l) sz i).bind fun p => (stAV p.2.2 off v).map fun x' => [(l, some (.row p.1 sz (p.2.1.set i x')))] else none := by
  unfold xkc rowT
  simp only [h]
  split
  · cases V l with
    | none => rfl
    | some o =>
      cases o with
      | row T' sz' xs =>
        by_cases e : sz = sz'
        · subst e
          simp only [if_true]
          cases xs[i]? <;> rfl
        · simp [e]
      | map ks vs => rfl
      | siter s p => rfl
      | mapb bs ck ks vs => rfl
  · rfl
theorem xnr (T sz i : Nat) (xs : List AV) : rowT (some (.row T sz xs)) sz i = (xs[i]?).map fun x => (T, xs, x) := by simp [rowT]
theorem xmp {α β : Type} (a : α) (f : α → Option β) : (some a).bind f = f a := _root_.id rfl
theorem xfs (cs vs : List AV) (h : vs.length = cs.length) : stAV (.agg cs) 0 (.agg vs) = some (.agg vs) := by simp [stAV, h]
end
end Go.Proofs.YtjmnoaoeediodaaDoor.AL

