/- A law of the given program is proved: part 23 of 40. -/
import Derived.Test.YtjmnoaoeediodaaDoorA22
set_option linter.all false
/- The program's data as Lean structures, as abstract values, and the rules of these; printed by gdata.py. -/
set_option linter.all false
namespace Go.Proofs.YtjmnoaoeediodaaDoor.AL
abbrev xzb : ByteArray := ⟨#[]⟩
abbrev ik (k : IntKind) (n : Int) : AV := .val (.int k n)
abbrev sll {α : Type} (s : Nat) (f : α → AV) (l : List α) : AV := .sl s (l.map f)
abbrev encD (d : List UInt8) : AV := .sl 1 (d.map u8)
theorem cM_int (l : List Int) : closeds (l.map int) = true := xmb int (fun _ => _root_.id rfl) l
theorem xwi (l : List Bool) : closeds (l.map bool) = true := xmb bool (fun _ => _root_.id rfl) l
theorem cM_str (l : List ByteArray) : closeds (l.map str) = true := xmb str (fun _ => _root_.id rfl) l
theorem cM_u8 (l : List UInt8) : closeds (l.map u8) = true := xmb u8 (fun _ => _root_.id rfl) l
theorem cM_ik (k : IntKind) (l : List Int) : closeds (l.map (ik k)) = true := xmb (ik k) (fun _ => _root_.id rfl) l
theorem c_D (l : List UInt8) : closed (encD l) = true := cM_u8 l
theorem cM_D (l : List (List UInt8)) : closeds (l.map encD) = true := xmb encD c_D l
theorem cM_LI (l : List (List Int)) : closeds (l.map (sll 1 int)) = true := xmb (sll 1 int) (fun x => by simp only [closed]; exact cM_int x) l
theorem cM_LS (l : List (List ByteArray)) : closeds (l.map (sll 1 str)) = true := xmb (sll 1 str) (fun x => by simp only [closed]; exact cM_str x) l
structure runtime_boundsError where
  x : Int
  y : Int
  signed : Bool
  code : Int
  deriving Inhabited, DecidableEq
def xbc (x : runtime_boundsError) : AV := .agg [int x.x, int x.y, bool x.signed, (ik .u8) x.code]
theorem xgc (x : runtime_boundsError) : closed (xbc x) = true := by simp [xbc, closed, closeds, cM_int, xwi, cM_str, cM_u8, cM_ik, cM_D, cM_LI, cM_LS]
theorem x0c (l : List runtime_boundsError) : closeds (l.map xbc) = true := xmb xbc xgc l
structure runtime_errorAddressString where
  msg : ByteArray
  addr : Int
  deriving Inhabited, DecidableEq
def xkb (x : runtime_errorAddressString) : AV := .agg [str x.msg, (ik .u64) x.addr]
theorem xac (x : runtime_errorAddressString) : closed (xkb x) = true := by simp [xkb, closed, closeds, cM_int, xwi, cM_str, cM_u8, cM_ik, cM_D, cM_LI, cM_LS, x0c, xgc]
theorem x1c (l : List runtime_errorAddressString) : closeds (l.map xkb) = true := xmb xkb xac l
structure Finding where
  clause : Int
  layer : Int
  ino : Int
  slot : Int
  deriving Inhabited, DecidableEq
def xb (x : Finding) : AV := .agg [int x.clause, int x.layer, int x.ino, int x.slot]
theorem xhp (x : Finding) : xh (xb x) 4 = true := _root_.id rfl
theorem xfi (x : Finding) : closed (xb x) = true := by simp [xb, closed, closeds, cM_int, xwi, cM_str, cM_u8, cM_ik, cM_D, cM_LI, cM_LS, x0c, xgc, x1c, xac]
theorem x0j (l : List Finding) : closeds (l.map xb) = true := xmb xb xfi l
theorem xgp (x : Finding) : ldAgg (xb x) 0 4 = some (xb x) := _root_.id rfl
theorem xip (x y : Finding) : stAV (xb x) 0 (xb y) = some (xb y) := _root_.id rfl
theorem xzo (c0 c1 c2 c3 : AV) (x : Finding) : stAV (.agg [c0, c1, c2, c3]) 0 (xb x) = some (xb x) := _root_.id rfl
theorem x0m (x : Finding) : ldOne (xb x) 0 = some (int x.clause) := _root_.id rfl
theorem xym (x : Finding) (v : Int) : stAV (xb x) 0 (int v) = some (xb { x with clause := v }) := _root_.id rfl
theorem xdm (x : Finding) : ldOne (xb x) 1 = some (int x.layer) := _root_.id rfl
theorem xdn (x : Finding) (v : Int) : stAV (xb x) 1 (int v) = some (xb { x with layer := v }) := _root_.id rfl
theorem xcm (x : Finding) : ldOne (xb x) 2 = some (int x.ino) := _root_.id rfl
theorem xem (x : Finding) (v : Int) : stAV (xb x) 2 (int v) = some (xb { x with ino := v }) := _root_.id rfl
theorem x9m (x : Finding) : ldOne (xb x) 3 = some (int x.slot) := _root_.id rfl
theorem x3m (x : Finding) (v : Int) : stAV (xb x) 3 (int v) = some (xb { x with slot := v }) := _root_.id rfl
structure Report where
  code : Int
  found : List Finding
  done : List Finding
  left : List Finding
  passes : Int
  trans : Int
  writes : Int
  replayed : Bool
  deriving Inhabited, DecidableEq
def xp (x : Report) : AV := .agg [int x.code, (sll 4 xb) x.found, (sll 4 xb) x.done, (sll 4 xb) x.left, int x.passes, int x.trans, int x.writes, bool x.replayed]
theorem x2q (x : Report) : xh (xp x) 8 = true := _root_.id rfl
theorem xfr (x : Report) : closed (xp x) = true := by simp [xp, closed, closeds, cM_int, xwi, cM_str, cM_u8, cM_ik, cM_D, cM_LI, cM_LS, x0c, xgc, x1c, xac, x0j, xfi]
theorem xoq (x : Report) : ldAgg (xp x) 0 8 = some (xp x) := _root_.id rfl
theorem x4n (x : Report) : ldOne (xp x) 0 = some (int x.code) := _root_.id rfl
theorem xgn (x : Report) : ldOne (xp x) 1 = some ((sll 4 xb) x.found) := _root_.id rfl
theorem xfn (x : Report) : ldOne (xp x) 2 = some ((sll 4 xb) x.done) := _root_.id rfl
theorem xqn (x : Report) : ldOne (xp x) 3 = some ((sll 4 xb) x.left) := _root_.id rfl
theorem xmn (x : Report) : ldOne (xp x) 4 = some (int x.passes) := _root_.id rfl
theorem xpn (x : Report) : ldOne (xp x) 5 = some (int x.trans) := _root_.id rfl
theorem x1n (x : Report) : ldOne (xp x) 6 = some (int x.writes) := _root_.id rfl
theorem xjn (x : Report) : ldOne (xp x) 7 = some (bool x.replayed) := _root_.id rfl
structure Answer where
  clause : Int
  ino : Int
  slot : Int
  yes : Bool
  deriving Inhabited, DecidableEq
structure Script where
  mode : Int
  answers : List Answer
  default : Bool
  deriving Inhabited, DecidableEq
structure strings_span where
  start : Int
  end0 : Int
  deriving Inhabited, DecidableEq
structure unicode_Range16 where
  lo : Int
  hi : Int
  stride : Int
  deriving Inhabited, DecidableEq
structure unicode_Range32 where
  lo : Int
  hi : Int
  stride : Int
  deriving Inhabited, DecidableEq
structure unicode_RangeTable where
  r16 : List unicode_Range16
  r32 : List unicode_Range32
  latinOffset : Int
  deriving Inhabited, DecidableEq
structure errors_errorString where
  s : ByteArray
  deriving Inhabited, DecidableEq
structure unicode_utf8_acceptRange where
  lo : Int
  hi : Int
  deriving Inhabited, DecidableEq
end Go.Proofs.YtjmnoaoeediodaaDoor.AL

