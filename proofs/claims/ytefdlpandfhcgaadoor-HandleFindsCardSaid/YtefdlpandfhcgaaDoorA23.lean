/- A law of the given program is proved: part 23 of 50. -/
import Derived.Test.YtefdlpandfhcgaaDoorA22
set_option linter.all false
/- The program's data as Lean structures, as abstract values, and the rules of these; printed by gdata.py. -/
set_option linter.all false
namespace Go.Proofs.YtefdlpandfhcgaaDoor.AL
abbrev xp : ByteArray := ⟨#[]⟩
abbrev ik (k : IntKind) (n : Int) : AV := .val (.int k n)
abbrev sll {α : Type} (s : Nat) (f : α → AV) (l : List α) : AV := .sl s (l.map f)
abbrev encD (d : List UInt8) : AV := .sl 1 (d.map u8)
theorem cM_int (l : List Int) : closeds (l.map int) = true := xr int (fun _ => _root_.id rfl) l
theorem xac (l : List Bool) : closeds (l.map bool) = true := xr bool (fun _ => _root_.id rfl) l
theorem cM_str (l : List ByteArray) : closeds (l.map str) = true := xr str (fun _ => _root_.id rfl) l
theorem cM_u8 (l : List UInt8) : closeds (l.map u8) = true := xr u8 (fun _ => _root_.id rfl) l
theorem cM_ik (k : IntKind) (l : List Int) : closeds (l.map (ik k)) = true := xr (ik k) (fun _ => _root_.id rfl) l
theorem c_D (l : List UInt8) : closed (encD l) = true := cM_u8 l
theorem cM_D (l : List (List UInt8)) : closeds (l.map encD) = true := xr encD c_D l
theorem cM_LI (l : List (List Int)) : closeds (l.map (sll 1 int)) = true := xr (sll 1 int) (fun x => by simp only [closed]; exact cM_int x) l
theorem cM_LS (l : List (List ByteArray)) : closeds (l.map (sll 1 str)) = true := xr (sll 1 str) (fun x => by simp only [closed]; exact cM_str x) l
structure runtime_boundsError where
  x : Int
  y : Int
  signed : Bool
  code : Int
  deriving Inhabited, DecidableEq
def xyc (x : runtime_boundsError) : AV := .agg [int x.x, int x.y, bool x.signed, (ik .u8) x.code]
theorem xl (x : runtime_boundsError) : closed (xyc x) = true := by simp [xyc, closed, closeds, cM_int, xac, cM_str, cM_u8, cM_ik, cM_D, cM_LI, cM_LS]
theorem xm (l : List runtime_boundsError) : closeds (l.map xyc) = true := xr xyc xl l
structure runtime_errorAddressString where
  msg : ByteArray
  addr : Int
  deriving Inhabited, DecidableEq
def x3b (x : runtime_errorAddressString) : AV := .agg [str x.msg, (ik .u64) x.addr]
theorem xg (x : runtime_errorAddressString) : closed (x3b x) = true := by simp [x3b, closed, closeds, cM_int, xac, cM_str, cM_u8, cM_ik, cM_D, cM_LI, cM_LS, xm, xl]
theorem xh (l : List runtime_errorAddressString) : closeds (l.map x3b) = true := xr x3b xg l
structure Origin where
  layer : Int
  ino : Int
  gen : Int
  deriving Inhabited, DecidableEq
def xd (x : Origin) : AV := .agg [int x.layer, int x.ino, int x.gen]
theorem xqv (x : Origin) : xo (xd x) 3 = true := _root_.id rfl
theorem x6b (x : Origin) : closed (xd x) = true := by simp [xd, closed, closeds, cM_int, xac, cM_str, cM_u8, cM_ik, cM_D, cM_LI, cM_LS, xm, xl, xh, xg]
theorem x7b (l : List Origin) : closeds (l.map xd) = true := xr xd x6b l
theorem xiw (x : Origin) : ldAgg (xd x) 0 3 = some (xd x) := _root_.id rfl
theorem xrv (x y : Origin) : stAV (xd x) 0 (xd y) = some (xd y) := _root_.id rfl
theorem xou (c0 c1 c2 : AV) (x : Origin) : stAV (.agg [c0, c1, c2]) 0 (xd x) = some (xd x) := _root_.id rfl
theorem xsr (x : Origin) : ldOne (xd x) 0 = some (int x.layer) := _root_.id rfl
theorem x3r (x : Origin) : ldOne (xd x) 1 = some (int x.ino) := _root_.id rfl
theorem xqr (x : Origin) : ldOne (xd x) 2 = some (int x.gen) := _root_.id rfl
structure Geo where
  lowers : Int
  inodes : Int
  blocks : Int
  log : Int
  deriving Inhabited, DecidableEq
def encGeo (x : Geo) : AV := .agg [int x.lowers, int x.inodes, int x.blocks, int x.log]
theorem c_Geo (x : Geo) : closed (encGeo x) = true := by simp [encGeo, closed, closeds, cM_int, xac, cM_str, cM_u8, cM_ik, cM_D, cM_LI, cM_LS, xm, xl, xh, xg, x7b, x6b]
theorem cM_Geo (l : List Geo) : closeds (l.map encGeo) = true := xr encGeo c_Geo l
structure Entry where
  slot : Int
  ino : Int
  name : ByteArray
  deriving Inhabited, DecidableEq
def xt (x : Entry) : AV := .agg [int x.slot, int x.ino, str x.name]
theorem x8x (x : Entry) : xo (xt x) 3 = true := _root_.id rfl
theorem xvc (x : Entry) : closed (xt x) = true := by simp [xt, closed, closeds, cM_int, xac, cM_str, cM_u8, cM_ik, cM_D, cM_LI, cM_LS, xm, xl, xh, xg, x7b, x6b, cM_Geo, c_Geo]
theorem xlc (l : List Entry) : closeds (l.map xt) = true := xr xt xvc l
theorem x4w (x : Entry) : ldAgg (xt x) 0 3 = some (xt x) := _root_.id rfl
theorem xrx (c0 c1 c2 : AV) (x : Entry) : stAV (.agg [c0, c1, c2]) 0 (xt x) = some (xt x) := _root_.id rfl
theorem xns (x : Entry) : ldOne (xt x) 0 = some (int x.slot) := _root_.id rfl
theorem xat (x : Entry) : ldOne (xt x) 1 = some (int x.ino) := _root_.id rfl
theorem xms (x : Entry) : ldOne (xt x) 2 = some (str x.name) := _root_.id rfl
structure Attr where
  has : Int
  opaque0 : Int
  redirect : ByteArray
  origin : Origin
  shown : Int
  deriving Inhabited, DecidableEq
def x5c (x : Attr) : AV := .agg [int x.has, int x.opaque0, str x.redirect, int x.origin.layer, int x.origin.ino, int x.origin.gen, int x.shown]
theorem c_Attr (x : Attr) : closed (x5c x) = true := by simp [x5c, closed, closeds, cM_int, xac, cM_str, cM_u8, cM_ik, cM_D, cM_LI, cM_LS, xm, xl, xh, xg, x7b, x6b, cM_Geo, c_Geo, xlc, xvc]
theorem xrd (l : List Attr) : closeds (l.map x5c) = true := xr x5c c_Attr l
structure Node where
  kind : Int
  impure : Int
  nlink : Int
  gen : Int
  data : List UInt8
  entries : List Entry
  attr : Attr
  deriving Inhabited, DecidableEq
def xv (x : Node) : AV := .agg [int x.kind, int x.impure, int x.nlink, int x.gen, encD x.data, (sll 3 xt) x.entries, int x.attr.has, int x.attr.opaque0, str x.attr.redirect, int x.attr.origin.layer, int x.attr.origin.ino, int x.attr.origin.gen, int x.attr.shown]
theorem x8y (x : Node) : xo (xv x) 13 = true := _root_.id rfl
theorem c_Node (x : Node) : closed (xv x) = true := by simp [xv, closed, closeds, cM_int, xac, cM_str, cM_u8, cM_ik, cM_D, cM_LI, cM_LS, xm, xl, xh, xg, x7b, x6b, cM_Geo, c_Geo, xlc, xvc, xrd, c_Attr]
theorem xpd (l : List Node) : closeds (l.map xv) = true := xr xv c_Node l
theorem xmz (x : Node) : ldAgg (xv x) 0 13 = some (xv x) := _root_.id rfl
theorem x6y (c0 c1 c2 c3 c4 c5 c6 c7 c8 c9 c10 c11 c12 : AV) (x : Node) : stAV (.agg [c0, c1, c2, c3, c4, c5, c6, c7, c8, c9, c10, c11, c12]) 0 (xv x) = some (xv x) := _root_.id rfl
theorem xev (x : Node) : ldOne (xv x) 0 = some (int x.kind) := _root_.id rfl
theorem xkw (x : Node) : partO 0 (xv x) = some (int x.kind) := _root_.id rfl
theorem xpu (x : Node) : ldOne (xv x) 1 = some (int x.impure) := _root_.id rfl
theorem x8v (x : Node) : ldOne (xv x) 2 = some (int x.nlink) := _root_.id rfl
theorem x7u (x : Node) : ldOne (xv x) 3 = some (int x.gen) := _root_.id rfl
theorem xdv (x : Node) : ldOne (xv x) 4 = some (encD x.data) := _root_.id rfl
theorem x2u (x : Node) : ldOne (xv x) 5 = some ((sll 3 xt) x.entries) := _root_.id rfl
theorem xov (x : Node) : partO 5 (xv x) = some ((sll 3 xt) x.entries) := _root_.id rfl
theorem x2r (x : Node) : ldAgg (xv x) 6 7 = some (x5c x.attr) := _root_.id rfl
theorem xqu (x : Node) : ldOne (xv x) 6 = some (int x.attr.has) := _root_.id rfl
theorem xiu (x : Node) : ldOne (xv x) 8 = some (str x.attr.redirect) := _root_.id rfl
structure Branch where
  nodes : List Node
  deriving Inhabited, DecidableEq
def xgb (x : Branch) : AV := .agg [(sll 13 xv) x.nodes]
theorem xnv (x : Branch) : xo (xgb x) 1 = true := _root_.id rfl
theorem xbd (x : Branch) : closed (xgb x) = true := by simp [xgb, closed, closeds, cM_int, xac, cM_str, cM_u8, cM_ik, cM_D, cM_LI, cM_LS, xm, xl, xh, xg, x7b, x6b, cM_Geo, c_Geo, xlc, xvc, xrd, c_Attr, xpd, c_Node]
theorem x0c (l : List Branch) : closeds (l.map xgb) = true := xr xgb xbd l
theorem xau (x : Branch) : ldAgg (xgb x) 0 1 = some (xgb x) := _root_.id rfl
theorem xct (x : Branch) : ldOne (xgb x) 0 = some ((sll 13 xv) x.nodes) := _root_.id rfl
theorem xjv (x : Branch) : AV.cells (xgb x) = [(sll 13 xv) x.nodes] := _root_.id rfl
structure Stack where
  geo : Geo
  upper : Branch
  lowers : List Branch
  deriving Inhabited, DecidableEq
def xtb (x : Stack) : AV := .agg [int x.geo.lowers, int x.geo.inodes, int x.geo.blocks, int x.geo.log, (sll 13 xv) x.upper.nodes, (sll 1 xgb) x.lowers]
theorem xfx (x : Stack) : xo (xtb x) 6 = true := _root_.id rfl
theorem x6d (x : Stack) : closed (xtb x) = true := by simp [xtb, closed, closeds, cM_int, xac, cM_str, cM_u8, cM_ik, cM_D, cM_LI, cM_LS, xm, xl, xh, xg, x7b, x6b, cM_Geo, c_Geo, xlc, xvc, xrd, c_Attr, xpd, c_Node, x0c, xbd]
theorem xie (l : List Stack) : closeds (l.map xtb) = true := xr xtb x6d l
theorem xsx (x : Stack) : ldAgg (xtb x) 0 6 = some (xtb x) := _root_.id rfl
theorem x1q (x : Stack) : ldAgg (xtb x) 4 1 = some (xgb x.upper) := _root_.id rfl
theorem xgt (x : Stack) : ldOne (xtb x) 5 = some ((sll 1 xgb) x.lowers) := _root_.id rfl
structure Ar4_Int where
  c0 : Int
  c1 : Int
  c2 : Int
  c3 : Int
  deriving Inhabited, DecidableEq
def xjb (x : Ar4_Int) : AV := .agg [int x.c0, int x.c1, int x.c2, int x.c3]
theorem xft (x : Ar4_Int) : xo (xjb x) 4 = true := _root_.id rfl
theorem xsd (x : Ar4_Int) : closed (xjb x) = true := by simp [xjb, closed, closeds, cM_int, xac, cM_str, cM_u8, cM_ik, cM_D, cM_LI, cM_LS, xm, xl, xh, xg, x7b, x6b, cM_Geo, c_Geo, xlc, xvc, xrd, c_Attr, xpd, c_Node, x0c, xbd, xie, x6d]
theorem xtd (l : List Ar4_Int) : closeds (l.map xjb) = true := xr xjb xsd l
theorem xbt (c0 c1 c2 c3 : AV) (x : Ar4_Int) : stAV (.agg [c0, c1, c2, c3]) 0 (xjb x) = some (xjb x) := _root_.id rfl
theorem x3s (x : Ar4_Int) : AV.cells (xjb x) = [int x.c0, int x.c1, int x.c2, int x.c3] := _root_.id rfl
theorem xtp (x : Ar4_Int) : ldOne (xjb x) 0 = some (int x.c0) := _root_.id rfl
theorem xuq (x : Ar4_Int) : ldOne (xjb x) 1 = some (int x.c1) := _root_.id rfl
theorem x9p (x : Ar4_Int) : ldOne (xjb x) 2 = some (int x.c2) := _root_.id rfl
theorem xqp (x : Ar4_Int) : ldOne (xjb x) 3 = some (int x.c3) := _root_.id rfl
structure Ar3_Ar4_Int where
  c0 : Ar4_Int
  c1 : Ar4_Int
  c2 : Ar4_Int
  deriving Inhabited, DecidableEq
def xe (x : Ar3_Ar4_Int) : AV := .agg [int x.c0.c0, int x.c0.c1, int x.c0.c2, int x.c0.c3, int x.c1.c0, int x.c1.c1, int x.c1.c2, int x.c1.c3, int x.c2.c0, int x.c2.c1, int x.c2.c2, int x.c2.c3]
theorem xin (x : Ar3_Ar4_Int) : xo (xe x) 12 = true := _root_.id rfl
theorem xrc (x : Ar3_Ar4_Int) : closed (xe x) = true := by simp [xe, closed, closeds, cM_int, xac, cM_str, cM_u8, cM_ik, cM_D, cM_LI, cM_LS, xm, xl, xh, xg, x7b, x6b, cM_Geo, c_Geo, xlc, xvc, xrd, c_Attr, xpd, c_Node, x0c, xbd, xie, x6d, xtd, xsd]
theorem xuc (l : List Ar3_Ar4_Int) : closeds (l.map xe) = true := xr xe xrc l
theorem x2n (x : Ar3_Ar4_Int) : ldAgg (xe x) 0 12 = some (xe x) := _root_.id rfl
theorem xtn (c0 c1 c2 c3 c4 c5 c6 c7 c8 c9 c10 c11 : AV) (x : Ar3_Ar4_Int) : stAV (.agg [c0, c1, c2, c3, c4, c5, c6, c7, c8, c9, c10, c11]) 0 (xe x) = some (xe x) := _root_.id rfl
structure Ar3_Int where
  c0 : Int
  c1 : Int
  c2 : Int
  deriving Inhabited, DecidableEq
def xvb (x : Ar3_Int) : AV := .agg [int x.c0, int x.c1, int x.c2]
theorem xif (x : Ar3_Int) : closed (xvb x) = true := by simp [xvb, closed, closeds, cM_int, xac, cM_str, cM_u8, cM_ik, cM_D, cM_LI, cM_LS, xm, xl, xh, xg, x7b, x6b, cM_Geo, c_Geo, xlc, xvc, xrd, c_Attr, xpd, c_Node, x0c, xbd, xie, x6d, xtd, xsd, xuc, xrc]
theorem xqf (l : List Ar3_Int) : closeds (l.map xvb) = true := xr xvb xif l
theorem xgq (x : Ar3_Int) : ldOne (xvb x) 0 = some (int x.c0) := _root_.id rfl
theorem xeq (x : Ar3_Int) (v : Int) : stAV (xvb x) 0 (int v) = some (xvb { x with c0 := v }) := _root_.id rfl
theorem xdq (x : Ar3_Int) : ldOne (xvb x) 1 = some (int x.c1) := _root_.id rfl
theorem xwq (x : Ar3_Int) (v : Int) : stAV (xvb x) 1 (int v) = some (xvb { x with c1 := v }) := _root_.id rfl
theorem x0q (x : Ar3_Int) : ldOne (xvb x) 2 = some (int x.c2) := _root_.id rfl
theorem xbq (x : Ar3_Int) (v : Int) : stAV (xvb x) 2 (int v) = some (xvb { x with c2 := v }) := _root_.id rfl
structure Place where
  layer : Int
  ino : Int
  deriving Inhabited, DecidableEq
def xge (x : Place) : AV := .agg [int x.layer, int x.ino]
theorem xzx (x : Place) : xo (xge x) 2 = true := _root_.id rfl
theorem xng (x : Place) : closed (xge x) = true := by simp [xge, closed, closeds, cM_int, xac, cM_str, cM_u8, cM_ik, cM_D, cM_LI, cM_LS, xm, xl, xh, xg, x7b, x6b, cM_Geo, c_Geo, xlc, xvc, xrd, c_Attr, xpd, c_Node, x0c, xbd, xie, x6d, xtd, xsd, xuc, xrc, xqf, xif]
theorem xgh (l : List Place) : closeds (l.map xge) = true := xr xge xng l
theorem x1t (x : Place) : ldOne (xge x) 0 = some (int x.layer) := _root_.id rfl
theorem x5t (x : Place) : ldOne (xge x) 1 = some (int x.ino) := _root_.id rfl
structure Finding where
  clause : Int
  layer : Int
  ino : Int
  slot : Int
  deriving Inhabited, DecidableEq
def x4g (x : Finding) : AV := .agg [int x.clause, int x.layer, int x.ino, int x.slot]
theorem xzg (x : Finding) : closed (x4g x) = true := by simp [x4g, closed, closeds, cM_int, xac, cM_str, cM_u8, cM_ik, cM_D, cM_LI, cM_LS, xm, xl, xh, xg, x7b, x6b, cM_Geo, c_Geo, xlc, xvc, xrd, c_Attr, xpd, c_Node, x0c, xbd, xie, x6d, xtd, xsd, xuc, xrc, xqf, xif, xgh, xng]
theorem x7g (l : List Finding) : closeds (l.map x4g) = true := xr x4g xzg l
structure index_upper where
  stack : Stack
  tree : List Bool
  deriving Inhabited, DecidableEq
def xvf (x : index_upper) : AV := .agg [int x.stack.geo.lowers, int x.stack.geo.inodes, int x.stack.geo.blocks, int x.stack.geo.log, (sll 13 xv) x.stack.upper.nodes, (sll 1 xgb) x.stack.lowers, (sll 1 bool) x.tree]
theorem x3f (x : index_upper) : closed (xvf x) = true := by simp [xvf, closed, closeds, cM_int, xac, cM_str, cM_u8, cM_ik, cM_D, cM_LI, cM_LS, xm, xl, xh, xg, x7b, x6b, cM_Geo, c_Geo, xlc, xvc, xrd, c_Attr, xpd, c_Node, x0c, xbd, xie, x6d, xtd, xsd, xuc, xrc, xqf, xif, xgh, xng, x7g, xzg]
theorem xog (l : List index_upper) : closeds (l.map xvf) = true := xr xvf x3f l
structure Way where
  ino : Int
  up : Int
  name : ByteArray
  deriving Inhabited, DecidableEq
def encWay (x : Way) : AV := .agg [int x.ino, int x.up, str x.name]
theorem c_Way (x : Way) : closed (encWay x) = true := by simp [encWay, closed, closeds, cM_int, xac, cM_str, cM_u8, cM_ik, cM_D, cM_LI, cM_LS, xm, xl, xh, xg, x7b, x6b, cM_Geo, c_Geo, xlc, xvc, xrd, c_Attr, xpd, c_Node, x0c, xbd, xie, x6d, xtd, xsd, xuc, xrc, xqf, xif, xgh, xng, x7g, xzg, xog, x3f]
theorem cM_Way (l : List Way) : closeds (l.map encWay) = true := xr encWay c_Way l
structure errors_errorString where
  s : ByteArray
  deriving Inhabited, DecidableEq
def x4c (x : errors_errorString) : AV := .agg [str x.s]
theorem xjg (x : errors_errorString) : closed (x4c x) = true := by simp [x4c, closed, closeds, cM_int, xac, cM_str, cM_u8, cM_ik, cM_D, cM_LI, cM_LS, xm, xl, xh, xg, x7b, x6b, cM_Geo, c_Geo, xlc, xvc, xrd, c_Attr, xpd, c_Node, x0c, xbd, xie, x6d, xtd, xsd, xuc, xrc, xqf, xif, xgh, xng, x7g, xzg, xog, x3f, cM_Way, c_Way]
theorem xsi (l : List errors_errorString) : closeds (l.map x4c) = true := xr x4c xjg l
structure Ar2_Int where
  c0 : Int
  c1 : Int
  deriving Inhabited, DecidableEq
def x6g (x : Ar2_Int) : AV := .agg [int x.c0, int x.c1]
theorem xsv (x : Ar2_Int) : closed (x6g x) = true := by simp [x6g, closed, closeds, cM_int, xac, cM_str, cM_u8, cM_ik, cM_D, cM_LI, cM_LS, xm, xl, xh, xg, x7b, x6b, cM_Geo, c_Geo, xlc, xvc, xrd, c_Attr, xpd, c_Node, x0c, xbd, xie, x6d, xtd, xsd, xuc, xrc, xqf, xif, xgh, xng, x7g, xzg, xog, x3f, cM_Way, c_Way, xsi, xjg]
theorem xjt (l : List Ar2_Int) : closeds (l.map x6g) = true := xr x6g xsv l
end Go.Proofs.YtefdlpandfhcgaaDoor.AL

