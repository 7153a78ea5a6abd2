/- A law of the given program is proved: part 23 of 45. -/
import Derived.Test.YtjmnoaoeediodaaDoorB22
set_option linter.all false
/- The program's data as Lean structures, as abstract values, and the rules of these; printed by gdata.py. -/
set_option linter.all false
namespace Go.Proofs.YtjmnoaoeediodaaDoor.AL
abbrev x5c : ByteArray := ⟨#[]⟩
abbrev ik (k : IntKind) (n : Int) : AV := .val (.int k n)
abbrev sll {α : Type} (s : Nat) (f : α → AV) (l : List α) : AV := .sl s (l.map f)
abbrev encD (d : List UInt8) : AV := .sl 1 (d.map u8)
theorem cM_int (l : List Int) : closeds (l.map int) = true := xjb int (fun _ => _root_.id rfl) l
theorem xbh (l : List Bool) : closeds (l.map bool) = true := xjb bool (fun _ => _root_.id rfl) l
theorem cM_str (l : List ByteArray) : closeds (l.map str) = true := xjb str (fun _ => _root_.id rfl) l
theorem cM_u8 (l : List UInt8) : closeds (l.map u8) = true := xjb u8 (fun _ => _root_.id rfl) l
theorem cM_ik (k : IntKind) (l : List Int) : closeds (l.map (ik k)) = true := xjb (ik k) (fun _ => _root_.id rfl) l
theorem c_D (l : List UInt8) : closed (encD l) = true := cM_u8 l
theorem cM_D (l : List (List UInt8)) : closeds (l.map encD) = true := xjb encD c_D l
theorem cM_LI (l : List (List Int)) : closeds (l.map (sll 1 int)) = true := xjb (sll 1 int) (fun x => by simp only [closed]; exact cM_int x) l
theorem cM_LS (l : List (List ByteArray)) : closeds (l.map (sll 1 str)) = true := xjb (sll 1 str) (fun x => by simp only [closed]; exact cM_str x) l
structure runtime_boundsError where
  x : Int
  y : Int
  signed : Bool
  code : Int
  deriving Inhabited, DecidableEq
def xoc (x : runtime_boundsError) : AV := .agg [int x.x, int x.y, bool x.signed, (ik .u8) x.code]
theorem xvb (x : runtime_boundsError) : closed (xoc x) = true := by simp [xoc, closed, closeds, cM_int, xbh, cM_str, cM_u8, cM_ik, cM_D, cM_LI, cM_LS]
theorem x6b (l : List runtime_boundsError) : closeds (l.map xoc) = true := xjb xoc xvb l
structure runtime_errorAddressString where
  msg : ByteArray
  addr : Int
  deriving Inhabited, DecidableEq
def xwb (x : runtime_errorAddressString) : AV := .agg [str x.msg, (ik .u64) x.addr]
theorem xhb (x : runtime_errorAddressString) : closed (xwb x) = true := by simp [xwb, closed, closeds, cM_int, xbh, cM_str, cM_u8, cM_ik, cM_D, cM_LI, cM_LS, x6b, xvb]
theorem xxb (l : List runtime_errorAddressString) : closeds (l.map xwb) = true := xjb xwb xhb l
structure Finding where
  clause : Int
  layer : Int
  ino : Int
  slot : Int
  deriving Inhabited, DecidableEq
def xj (x : Finding) : AV := .agg [int x.clause, int x.layer, int x.ino, int x.slot]
theorem xvs (x : Finding) : xm (xj x) 4 = true := _root_.id rfl
theorem xjg (x : Finding) : closed (xj x) = true := by simp [xj, closed, closeds, cM_int, xbh, cM_str, cM_u8, cM_ik, cM_D, cM_LI, cM_LS, x6b, xvb, xxb, xhb]
theorem x0g (l : List Finding) : closeds (l.map xj) = true := xjb xj xjg l
theorem xpt (x : Finding) : ldAgg (xj x) 0 4 = some (xj x) := _root_.id rfl
theorem xrs (x y : Finding) : stAV (xj x) 0 (xj y) = some (xj y) := _root_.id rfl
theorem xfs (c0 c1 c2 c3 : AV) (x : Finding) : stAV (.agg [c0, c1, c2, c3]) 0 (xj x) = some (xj x) := _root_.id rfl
theorem xxq (x : Finding) : ldOne (xj x) 0 = some (int x.clause) := _root_.id rfl
theorem xmq (x : Finding) (v : Int) : stAV (xj x) 0 (int v) = some (xj { x with clause := v }) := _root_.id rfl
theorem xwp (x : Finding) : ldOne (xj x) 1 = some (int x.layer) := _root_.id rfl
theorem x8p (x : Finding) (v : Int) : stAV (xj x) 1 (int v) = some (xj { x with layer := v }) := _root_.id rfl
theorem x3p (x : Finding) : ldOne (xj x) 2 = some (int x.ino) := _root_.id rfl
theorem xlq (x : Finding) (v : Int) : stAV (xj x) 2 (int v) = some (xj { x with ino := v }) := _root_.id rfl
theorem xrp (x : Finding) : ldOne (xj x) 3 = some (int x.slot) := _root_.id rfl
theorem xtq (x : Finding) (v : Int) : stAV (xj x) 3 (int v) = some (xj { x with slot := v }) := _root_.id rfl
structure Report where
  code : Int
  found : List Finding
  done : List Finding
  left : List Finding
  passes : Int
  trans : Int
  writes : Int
  replayed : Bool
  deriving Inhabited, DecidableEq
def xzh (x : Report) : AV := .agg [int x.code, (sll 4 xj) x.found, (sll 4 xj) x.done, (sll 4 xj) x.left, int x.passes, int x.trans, int x.writes, bool x.replayed]
theorem xem (x : Report) : closed (xzh x) = true := by simp [xzh, closed, closeds, cM_int, xbh, cM_str, cM_u8, cM_ik, cM_D, cM_LI, cM_LS, x6b, xvb, xxb, xhb, x0g, xjg]
theorem xwo (l : List Report) : closeds (l.map xzh) = true := xjb xzh xem l
structure Answer where
  clause : Int
  ino : Int
  slot : Int
  yes : Bool
  deriving Inhabited, DecidableEq
def xc (x : Answer) : AV := .agg [int x.clause, int x.ino, int x.slot, bool x.yes]
theorem xvu (x : Answer) : xm (xc x) 4 = true := _root_.id rfl
theorem xxl (x : Answer) : closed (xc x) = true := by simp [xc, closed, closeds, cM_int, xbh, cM_str, cM_u8, cM_ik, cM_D, cM_LI, cM_LS, x6b, xvb, xxb, xhb, x0g, xjg, xwo, xem]
theorem xco (l : List Answer) : closeds (l.map xc) = true := xjb xc xxl l
theorem x0u (x : Answer) : ldAgg (xc x) 0 4 = some (xc x) := _root_.id rfl
theorem xiu (x y : Answer) : stAV (xc x) 0 (xc y) = some (xc y) := _root_.id rfl
theorem x9u (c0 c1 c2 c3 : AV) (x : Answer) : stAV (.agg [c0, c1, c2, c3]) 0 (xc x) = some (xc x) := _root_.id rfl
theorem xrr (x : Answer) : ldOne (xc x) 0 = some (int x.clause) := _root_.id rfl
theorem xnr (x : Answer) : ldOne (xc x) 1 = some (int x.ino) := _root_.id rfl
theorem xbr (x : Answer) : ldOne (xc x) 2 = some (int x.slot) := _root_.id rfl
theorem xwr (x : Answer) : ldOne (xc x) 3 = some (bool x.yes) := _root_.id rfl
structure Script where
  mode : Int
  answers : List Answer
  default : Bool
  deriving Inhabited, DecidableEq
def xk (x : Script) : AV := .agg [int x.mode, (sll 4 xc) x.answers, bool x.default]
theorem xmv (x : Script) : xm (xk x) 3 = true := _root_.id rfl
theorem xtx (x : Script) : closed (xk x) = true := by simp [xk, closed, closeds, cM_int, xbh, cM_str, cM_u8, cM_ik, cM_D, cM_LI, cM_LS, x6b, xvb, xxb, xhb, x0g, xjg, xwo, xem, xco, xxl]
theorem x3t (x : Script) : ldAgg (xk x) 0 3 = some (xk x) := _root_.id rfl
theorem xjv (c0 c1 c2 : AV) (x : Script) : stAV (.agg [c0, c1, c2]) 0 (xk x) = some (xk x) := _root_.id rfl
theorem xpr (x : Script) : ldOne (xk x) 0 = some (int x.mode) := _root_.id rfl
theorem x9q (x : Script) : ldOne (xk x) 1 = some ((sll 4 xc) x.answers) := _root_.id rfl
theorem xtr (x : Script) : ldOne (xk x) 2 = some (bool x.default) := _root_.id rfl
structure strings_span where
  start : Int
  end0 : Int
  deriving Inhabited, DecidableEq
structure unicode_Range16 where
  lo : Int
  hi : Int
  stride : Int
  deriving Inhabited, DecidableEq
structure unicode_Range32 where
  lo : Int
  hi : Int
  stride : Int
  deriving Inhabited, DecidableEq
structure unicode_RangeTable where
  r16 : List unicode_Range16
  r32 : List unicode_Range32
  latinOffset : Int
  deriving Inhabited, DecidableEq
structure errors_errorString where
  s : ByteArray
  deriving Inhabited, DecidableEq
structure unicode_utf8_acceptRange where
  lo : Int
  hi : Int
  deriving Inhabited, DecidableEq
end Go.Proofs.YtjmnoaoeediodaaDoor.AL

