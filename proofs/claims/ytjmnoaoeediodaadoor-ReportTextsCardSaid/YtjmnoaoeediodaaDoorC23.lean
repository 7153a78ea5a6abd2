/- A law of the given program is proved: part 23 of 47. -/
import Derived.Test.YtjmnoaoeediodaaDoorC22
set_option linter.all false
/- The program's data as Lean structures, as abstract values, and the rules of these; printed by gdata.py. -/
set_option linter.all false
namespace Go.Proofs.YtjmnoaoeediodaaDoor.AL
abbrev xzc : ByteArray := ⟨#[]⟩
abbrev ik (k : IntKind) (n : Int) : AV := .val (.int k n)
abbrev sll {α : Type} (s : Nat) (f : α → AV) (l : List α) : AV := .sl s (l.map f)
abbrev encD (d : List UInt8) : AV := .sl 1 (d.map u8)
theorem cM_int (l : List Int) : closeds (l.map int) = true := x2b int (fun _ => _root_.id rfl) l
theorem xki (l : List Bool) : closeds (l.map bool) = true := x2b bool (fun _ => _root_.id rfl) l
theorem cM_str (l : List ByteArray) : closeds (l.map str) = true := x2b str (fun _ => _root_.id rfl) l
theorem cM_u8 (l : List UInt8) : closeds (l.map u8) = true := x2b u8 (fun _ => _root_.id rfl) l
theorem cM_ik (k : IntKind) (l : List Int) : closeds (l.map (ik k)) = true := x2b (ik k) (fun _ => _root_.id rfl) l
theorem c_D (l : List UInt8) : closed (encD l) = true := cM_u8 l
theorem cM_D (l : List (List UInt8)) : closeds (l.map encD) = true := x2b encD c_D l
theorem cM_LI (l : List (List Int)) : closeds (l.map (sll 1 int)) = true := x2b (sll 1 int) (fun x => by simp only [closed]; exact cM_int x) l
theorem cM_LS (l : List (List ByteArray)) : closeds (l.map (sll 1 str)) = true := x2b (sll 1 str) (fun x => by simp only [closed]; exact cM_str x) l
structure runtime_boundsError where
  x : Int
  y : Int
  signed : Bool
  code : Int
  deriving Inhabited, DecidableEq
def xfd (x : runtime_boundsError) : AV := .agg [int x.x, int x.y, bool x.signed, (ik .u8) x.code]
theorem xcc (x : runtime_boundsError) : closed (xfd x) = true := by simp [xfd, closed, closeds, cM_int, xki, cM_str, cM_u8, cM_ik, cM_D, cM_LI, cM_LS]
theorem xtc (l : List runtime_boundsError) : closeds (l.map xfd) = true := x2b xfd xcc l
structure runtime_errorAddressString where
  msg : ByteArray
  addr : Int
  deriving Inhabited, DecidableEq
def xec (x : runtime_errorAddressString) : AV := .agg [str x.msg, (ik .u64) x.addr]
theorem x0b (x : runtime_errorAddressString) : closed (xec x) = true := by simp [xec, closed, closeds, cM_int, xki, cM_str, cM_u8, cM_ik, cM_D, cM_LI, cM_LS, xtc, xcc]
theorem xfc (l : List runtime_errorAddressString) : closeds (l.map xec) = true := x2b xec x0b l
structure Finding where
  clause : Int
  layer : Int
  ino : Int
  slot : Int
  deriving Inhabited, DecidableEq
def xd (x : Finding) : AV := .agg [int x.clause, int x.layer, int x.ino, int x.slot]
theorem xkv (x : Finding) : xn (xd x) 4 = true := _root_.id rfl
theorem xwh (x : Finding) : closed (xd x) = true := by simp [xd, closed, closeds, cM_int, xki, cM_str, cM_u8, cM_ik, cM_D, cM_LI, cM_LS, xtc, xcc, xfc, x0b]
theorem xgi (l : List Finding) : closeds (l.map xd) = true := x2b xd xwh l
theorem x1v (x : Finding) : ldAgg (xd x) 0 4 = some (xd x) := _root_.id rfl
theorem x4u (x y : Finding) : stAV (xd x) 0 (xd y) = some (xd y) := _root_.id rfl
theorem xxu (c0 c1 c2 c3 : AV) (x : Finding) : stAV (.agg [c0, c1, c2, c3]) 0 (xd x) = some (xd x) := _root_.id rfl
theorem xvs (x : Finding) : ldOne (xd x) 0 = some (int x.clause) := _root_.id rfl
theorem xos (x : Finding) (v : Int) : stAV (xd x) 0 (int v) = some (xd { x with clause := v }) := _root_.id rfl
theorem xur (x : Finding) : ldOne (xd x) 1 = some (int x.layer) := _root_.id rfl
theorem xxs (x : Finding) (v : Int) : stAV (xd x) 1 (int v) = some (xd { x with layer := v }) := _root_.id rfl
theorem xks (x : Finding) : ldOne (xd x) 2 = some (int x.ino) := _root_.id rfl
theorem x4r (x : Finding) (v : Int) : stAV (xd x) 2 (int v) = some (xd { x with ino := v }) := _root_.id rfl
theorem x1s (x : Finding) : ldOne (xd x) 3 = some (int x.slot) := _root_.id rfl
theorem x2r (x : Finding) (v : Int) : stAV (xd x) 3 (int v) = some (xd { x with slot := v }) := _root_.id rfl
structure Report where
  code : Int
  found : List Finding
  done : List Finding
  left : List Finding
  passes : Int
  trans : Int
  writes : Int
  replayed : Bool
  deriving Inhabited, DecidableEq
def xgb (x : Report) : AV := .agg [int x.code, (sll 4 xd) x.found, (sll 4 xd) x.done, (sll 4 xd) x.left, int x.passes, int x.trans, int x.writes, bool x.replayed]
theorem xqx (x : Report) : xn (xgb x) 8 = true := _root_.id rfl
theorem xqk (x : Report) : closed (xgb x) = true := by simp [xgb, closed, closeds, cM_int, xki, cM_str, cM_u8, cM_ik, cM_D, cM_LI, cM_LS, xtc, xcc, xfc, x0b, xgi, xwh]
theorem x4q (l : List Report) : closeds (l.map xgb) = true := x2b xgb xqk l
theorem xqw (x : Report) : ldAgg (xgb x) 0 8 = some (xgb x) := _root_.id rfl
theorem xtt (x : Report) : ldOne (xgb x) 0 = some (int x.code) := _root_.id rfl
theorem xct (x : Report) : ldOne (xgb x) 1 = some ((sll 4 xd) x.found) := _root_.id rfl
theorem x8t (x : Report) : ldOne (xgb x) 2 = some ((sll 4 xd) x.done) := _root_.id rfl
theorem xvt (x : Report) : ldOne (xgb x) 3 = some ((sll 4 xd) x.left) := _root_.id rfl
theorem xyt (x : Report) : ldOne (xgb x) 4 = some (int x.passes) := _root_.id rfl
theorem x7t (x : Report) : ldOne (xgb x) 5 = some (int x.trans) := _root_.id rfl
theorem xnt (x : Report) : ldOne (xgb x) 6 = some (int x.writes) := _root_.id rfl
theorem xkt (x : Report) : ldOne (xgb x) 7 = some (bool x.replayed) := _root_.id rfl
structure Answer where
  clause : Int
  ino : Int
  slot : Int
  yes : Bool
  deriving Inhabited, DecidableEq
def xc (x : Answer) : AV := .agg [int x.clause, int x.ino, int x.slot, bool x.yes]
theorem xxx (x : Answer) : xn (xc x) 4 = true := _root_.id rfl
theorem x0n (x : Answer) : closed (xc x) = true := by simp [xc, closed, closeds, cM_int, xki, cM_str, cM_u8, cM_ik, cM_D, cM_LI, cM_LS, xtc, xcc, xfc, x0b, xgi, xwh, x4q, xqk]
theorem xkq (l : List Answer) : closeds (l.map xc) = true := x2b xc x0n l
theorem xyw (x : Answer) : ldAgg (xc x) 0 4 = some (xc x) := _root_.id rfl
theorem xfx (x y : Answer) : stAV (xc x) 0 (xc y) = some (xc y) := _root_.id rfl
theorem xtw (c0 c1 c2 c3 : AV) (x : Answer) : stAV (.agg [c0, c1, c2, c3]) 0 (xc x) = some (xc x) := _root_.id rfl
theorem xqt (x : Answer) : ldOne (xc x) 0 = some (int x.clause) := _root_.id rfl
theorem xit (x : Answer) : ldOne (xc x) 1 = some (int x.ino) := _root_.id rfl
theorem xbu (x : Answer) : ldOne (xc x) 2 = some (int x.slot) := _root_.id rfl
theorem x8s (x : Answer) : ldOne (xc x) 3 = some (bool x.yes) := _root_.id rfl
structure Script where
  mode : Int
  answers : List Answer
  default : Bool
  deriving Inhabited, DecidableEq
def xl (x : Script) : AV := .agg [int x.mode, (sll 4 xc) x.answers, bool x.default]
theorem xzw (x : Script) : xn (xl x) 3 = true := _root_.id rfl
theorem xnz (x : Script) : closed (xl x) = true := by simp [xl, closed, closeds, cM_int, xki, cM_str, cM_u8, cM_ik, cM_D, cM_LI, cM_LS, xtc, xcc, xfc, x0b, xgi, xwh, x4q, xqk, xkq, x0n]
theorem x2x (x : Script) : ldAgg (xl x) 0 3 = some (xl x) := _root_.id rfl
theorem xsw (c0 c1 c2 : AV) (x : Script) : stAV (.agg [c0, c1, c2]) 0 (xl x) = some (xl x) := _root_.id rfl
theorem xft (x : Script) : ldOne (xl x) 0 = some (int x.mode) := _root_.id rfl
theorem xrt (x : Script) : ldOne (xl x) 1 = some ((sll 4 xc) x.answers) := _root_.id rfl
theorem xcu (x : Script) : ldOne (xl x) 2 = some (bool x.default) := _root_.id rfl
structure strings_span where
  start : Int
  end0 : Int
  deriving Inhabited, DecidableEq
structure unicode_Range16 where
  lo : Int
  hi : Int
  stride : Int
  deriving Inhabited, DecidableEq
structure unicode_Range32 where
  lo : Int
  hi : Int
  stride : Int
  deriving Inhabited, DecidableEq
structure unicode_RangeTable where
  r16 : List unicode_Range16
  r32 : List unicode_Range32
  latinOffset : Int
  deriving Inhabited, DecidableEq
structure errors_errorString where
  s : ByteArray
  deriving Inhabited, DecidableEq
structure unicode_utf8_acceptRange where
  lo : Int
  hi : Int
  deriving Inhabited, DecidableEq
end Go.Proofs.YtjmnoaoeediodaaDoor.AL

