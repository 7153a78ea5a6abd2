/- A law of the given program is proved: part 23 of 51. -/
import Derived.Test.YtfkgckbdknpcnaaGreatDoorA22
set_option linter.all false
/- The program's data as Lean structures, as abstract values, and the rules of these; printed by gdata.py. -/
set_option linter.all false
namespace Go.Proofs.YtfkgckbdknpcnaaGreatDoor.AL
abbrev xk : ByteArray := ⟨#[]⟩
abbrev ik (k : IntKind) (n : Int) : AV := .val (.int k n)
abbrev sll {α : Type} (s : Nat) (f : α → AV) (l : List α) : AV := .sl s (l.map f)
abbrev encD (d : List UInt8) : AV := .sl 1 (d.map u8)
theorem cM_int (l : List Int) : closeds (l.map int) = true := xgb int (fun _ => _root_.id rfl) l
theorem xhe (l : List Bool) : closeds (l.map bool) = true := xgb bool (fun _ => _root_.id rfl) l
theorem cM_str (l : List ByteArray) : closeds (l.map str) = true := xgb str (fun _ => _root_.id rfl) l
theorem cM_u8 (l : List UInt8) : closeds (l.map u8) = true := xgb u8 (fun _ => _root_.id rfl) l
theorem cM_ik (k : IntKind) (l : List Int) : closeds (l.map (ik k)) = true := xgb (ik k) (fun _ => _root_.id rfl) l
theorem c_D (l : List UInt8) : closed (encD l) = true := cM_u8 l
theorem cM_D (l : List (List UInt8)) : closeds (l.map encD) = true := xgb encD c_D l
theorem cM_LI (l : List (List Int)) : closeds (l.map (sll 1 int)) = true := xgb (sll 1 int) (fun x => by simp only [closed]; exact cM_int x) l
theorem cM_LS (l : List (List ByteArray)) : closeds (l.map (sll 1 str)) = true := xgb (sll 1 str) (fun x => by simp only [closed]; exact cM_str x) l
structure runtime_boundsError where
  x : Int
  y : Int
  signed : Bool
  code : Int
  deriving Inhabited, DecidableEq
def x3e (x : runtime_boundsError) : AV := .agg [int x.x, int x.y, bool x.signed, (ik .u8) x.code]
theorem xeb (x : runtime_boundsError) : closed (x3e x) = true := by simp [x3e, closed, closeds, cM_int, xhe, cM_str, cM_u8, cM_ik, cM_D, cM_LI, cM_LS]
theorem xfb (l : List runtime_boundsError) : closeds (l.map x3e) = true := xgb x3e xeb l
structure runtime_errorAddressString where
  msg : ByteArray
  addr : Int
  deriving Inhabited, DecidableEq
def x8c (x : runtime_errorAddressString) : AV := .agg [str x.msg, (ik .u64) x.addr]
theorem xu (x : runtime_errorAddressString) : closed (x8c x) = true := by simp [x8c, closed, closeds, cM_int, xhe, cM_str, cM_u8, cM_ik, cM_D, cM_LI, cM_LS, xfb, xeb]
theorem xv (l : List runtime_errorAddressString) : closeds (l.map x8c) = true := xgb x8c xu l
structure Geo where
  lowers : Int
  inodes : Int
  blocks : Int
  log : Int
  deriving Inhabited, DecidableEq
def encGeo (x : Geo) : AV := .agg [int x.lowers, int x.inodes, int x.blocks, int x.log]
theorem c_Geo (x : Geo) : closed (encGeo x) = true := by simp [encGeo, closed, closeds, cM_int, xhe, cM_str, cM_u8, cM_ik, cM_D, cM_LI, cM_LS, xfb, xeb, xv, xu]
theorem cM_Geo (l : List Geo) : closeds (l.map encGeo) = true := xgb encGeo c_Geo l
structure Entry where
  slot : Int
  ino : Int
  name : ByteArray
  deriving Inhabited, DecidableEq
def xt (x : Entry) : AV := .agg [int x.slot, int x.ino, str x.name]
theorem xpdb (x : Entry) : xj (xt x) 3 = true := _root_.id rfl
theorem x7f (x : Entry) : closed (xt x) = true := by simp [xt, closed, closeds, cM_int, xhe, cM_str, cM_u8, cM_ik, cM_D, cM_LI, cM_LS, xfb, xeb, xv, xu, cM_Geo, c_Geo]
theorem xxe (l : List Entry) : closeds (l.map xt) = true := xgb xt x7f l
theorem xpeb (x : Entry) : ldAgg (xt x) 0 3 = some (xt x) := _root_.id rfl
theorem x6db (c0 c1 c2 : AV) (x : Entry) : stAV (.agg [c0, c1, c2]) 0 (xt x) = some (xt x) := _root_.id rfl
theorem xj8 (x : Entry) : ldOne (xt x) 0 = some (int x.slot) := _root_.id rfl
theorem xt8 (x : Entry) : ldOne (xt x) 1 = some (int x.ino) := _root_.id rfl
theorem xz7 (x : Entry) : ldOne (xt x) 2 = some (str x.name) := _root_.id rfl
structure Origin where
  layer : Int
  ino : Int
  gen : Int
  deriving Inhabited, DecidableEq
def xjm (x : Origin) : AV := .agg [int x.layer, int x.ino, int x.gen]
theorem xig (x : Origin) : closed (xjm x) = true := by simp [xjm, closed, closeds, cM_int, xhe, cM_str, cM_u8, cM_ik, cM_D, cM_LI, cM_LS, xfb, xeb, xv, xu, cM_Geo, c_Geo, xxe, x7f]
theorem x1f (l : List Origin) : closeds (l.map xjm) = true := xgb xjm xig l
structure Attr where
  has : Int
  opaque0 : Int
  redirect : ByteArray
  origin : Origin
  shown : Int
  deriving Inhabited, DecidableEq
def xpi (x : Attr) : AV := .agg [int x.has, int x.opaque0, str x.redirect, int x.origin.layer, int x.origin.ino, int x.origin.gen, int x.shown]
theorem x2fb (x : Attr) : xj (xpi x) 7 = true := _root_.id rfl
theorem c_Attr (x : Attr) : closed (xpi x) = true := by simp [xpi, closed, closeds, cM_int, xhe, cM_str, cM_u8, cM_ik, cM_D, cM_LI, cM_LS, xfb, xeb, xv, xu, cM_Geo, c_Geo, xxe, x7f, x1f, xig]
theorem xmj (l : List Attr) : closeds (l.map xpi) = true := xgb xpi c_Attr l
theorem xzab (x : Attr) : ldOne (xpi x) 0 = some (int x.has) := _root_.id rfl
structure Node where
  kind : Int
  impure : Int
  nlink : Int
  gen : Int
  data : List UInt8
  entries : List Entry
  attr : Attr
  deriving Inhabited, DecidableEq
def xf (x : Node) : AV := .agg [int x.kind, int x.impure, int x.nlink, int x.gen, encD x.data, (sll 3 xt) x.entries, int x.attr.has, int x.attr.opaque0, str x.attr.redirect, int x.attr.origin.layer, int x.attr.origin.ino, int x.attr.origin.gen, int x.attr.shown]
theorem xufb (x : Node) : xj (xf x) 13 = true := _root_.id rfl
theorem c_Node (x : Node) : closed (xf x) = true := by simp [xf, closed, closeds, cM_int, xhe, cM_str, cM_u8, cM_ik, cM_D, cM_LI, cM_LS, xfb, xeb, xv, xu, cM_Geo, c_Geo, xxe, x7f, x1f, xig, xmj, c_Attr]
theorem xmi (l : List Node) : closeds (l.map xf) = true := xgb xf c_Node l
theorem x8fb (x : Node) : ldAgg (xf x) 0 13 = some (xf x) := _root_.id rfl
theorem xlgb (c0 c1 c2 c3 c4 c5 c6 c7 c8 c9 c10 c11 c12 : AV) (x : Node) : stAV (.agg [c0, c1, c2, c3, c4, c5, c6, c7, c8, c9, c10, c11, c12]) 0 (xf x) = some (xf x) := _root_.id rfl
theorem x58 (x : Node) : ldOne (xf x) 0 = some (int x.kind) := _root_.id rfl
theorem xaab (x : Node) : partO 0 (xf x) = some (int x.kind) := _root_.id rfl
theorem xt9 (x : Node) : ldOne (xf x) 2 = some (int x.nlink) := _root_.id rfl
theorem x3ab (x : Node) : ldOne (xf x) 4 = some (encD x.data) := _root_.id rfl
theorem xcbb (x : Node) : ldOne (xf x) 5 = some ((sll 3 xt) x.entries) := _root_.id rfl
theorem xyab (x : Node) : partO 5 (xf x) = some ((sll 3 xt) x.entries) := _root_.id rfl
theorem x05 (x : Node) : ldAgg (xf x) 6 7 = some (xpi x.attr) := _root_.id rfl
theorem xz5 (x : Node) : partA 6 7 (xf x) = some (xpi x.attr) := _root_.id rfl
theorem xpab (x : Node) : ldOne (xf x) 6 = some (int x.attr.has) := _root_.id rfl
theorem xnab (x : Node) : ldOne (xf x) 7 = some (int x.attr.opaque0) := _root_.id rfl
theorem xmbb (x : Node) : ldOne (xf x) 8 = some (str x.attr.redirect) := _root_.id rfl
structure Branch where
  nodes : List Node
  deriving Inhabited, DecidableEq
def xi (x : Branch) : AV := .agg [(sll 13 xf) x.nodes]
theorem xm9 (x : Branch) : xj (xi x) 1 = true := _root_.id rfl
theorem x5h (x : Branch) : closed (xi x) = true := by simp [xi, closed, closeds, cM_int, xhe, cM_str, cM_u8, cM_ik, cM_D, cM_LI, cM_LS, xfb, xeb, xv, xu, cM_Geo, c_Geo, xxe, x7f, x1f, xig, xmj, c_Attr, xmi, c_Node]
theorem xzh (l : List Branch) : closeds (l.map xi) = true := xgb xi x5h l
theorem xx9 (x : Branch) : ldAgg (xi x) 0 1 = some (xi x) := _root_.id rfl
theorem xa8 (x : Branch) : ldOne (xi x) 0 = some ((sll 13 xf) x.nodes) := _root_.id rfl
theorem xfbb (x : Branch) : AV.cells (xi x) = [(sll 13 xf) x.nodes] := _root_.id rfl
structure Stack where
  geo : Geo
  upper : Branch
  lowers : List Branch
  deriving Inhabited, DecidableEq
def xl (x : Stack) : AV := .agg [int x.geo.lowers, int x.geo.inodes, int x.geo.blocks, int x.geo.log, (sll 13 xf) x.upper.nodes, (sll 1 xi) x.lowers]
theorem x2cb (x : Stack) : xj (xl x) 6 = true := _root_.id rfl
theorem x0k (x : Stack) : closed (xl x) = true := by simp [xl, closed, closeds, cM_int, xhe, cM_str, cM_u8, cM_ik, cM_D, cM_LI, cM_LS, xfb, xeb, xv, xu, cM_Geo, c_Geo, xxe, x7f, x1f, xig, xmj, c_Attr, xmi, c_Node, xzh, x5h]
theorem x2l (l : List Stack) : closeds (l.map xl) = true := xgb xl x0k l
theorem x3db (x : Stack) : ldAgg (xl x) 0 6 = some (xl x) := _root_.id rfl
theorem x7eb (c0 c1 c2 c3 c4 c5 : AV) (x : Stack) : stAV (.agg [c0, c1, c2, c3, c4, c5]) 0 (xl x) = some (xl x) := _root_.id rfl
theorem xleb (x : Stack) : AV.cells (xl x) = [int x.geo.lowers, int x.geo.inodes, int x.geo.blocks, int x.geo.log, (sll 13 xf) x.upper.nodes, (sll 1 xi) x.lowers] := _root_.id rfl
theorem xf4 (x : Stack) : ldAgg (xl x) 4 1 = some (xi x.upper) := _root_.id rfl
theorem xn7 (x : Stack) : ldOne (xl x) 4 = some ((sll 13 xf) x.upper.nodes) := _root_.id rfl
theorem xq8 (x : Stack) : ldOne (xl x) 5 = some ((sll 1 xi) x.lowers) := _root_.id rfl
structure Finding where
  clause : Int
  layer : Int
  ino : Int
  slot : Int
  deriving Inhabited, DecidableEq
def xcb (x : Finding) : AV := .agg [int x.clause, int x.layer, int x.ino, int x.slot]
theorem x06 (x : Finding) : xj (xcb x) 4 = true := _root_.id rfl
theorem xfj (x : Finding) : closed (xcb x) = true := by simp [xcb, closed, closeds, cM_int, xhe, cM_str, cM_u8, cM_ik, cM_D, cM_LI, cM_LS, xfb, xeb, xv, xu, cM_Geo, c_Geo, xxe, x7f, x1f, xig, xmj, c_Attr, xmi, c_Node, xzh, x5h, x2l, x0k]
theorem xoj (l : List Finding) : closeds (l.map xcb) = true := xgb xcb xfj l
theorem xd8 (x : Finding) : ldAgg (xcb x) 0 4 = some (xcb x) := _root_.id rfl
structure Place where
  layer : Int
  ino : Int
  deriving Inhabited, DecidableEq
def xc (x : Place) : AV := .agg [int x.layer, int x.ino]
theorem xmdb (x : Place) : xj (xc x) 2 = true := _root_.id rfl
theorem x8m (x : Place) : closed (xc x) = true := by simp [xc, closed, closeds, cM_int, xhe, cM_str, cM_u8, cM_ik, cM_D, cM_LI, cM_LS, xfb, xeb, xv, xu, cM_Geo, c_Geo, xxe, x7f, x1f, xig, xmj, c_Attr, xmi, c_Node, xzh, x5h, x2l, x0k, xoj, xfj]
theorem xun (l : List Place) : closeds (l.map xc) = true := xgb xc x8m l
theorem xqcb (x : Place) : ldAgg (xc x) 0 2 = some (xc x) := _root_.id rfl
theorem xyeb (x y : Place) : stAV (xc x) 0 (xc y) = some (xc y) := _root_.id rfl
theorem x0cb (c0 c1 : AV) (x : Place) : stAV (.agg [c0, c1]) 0 (xc x) = some (xc x) := _root_.id rfl
theorem xb8 (x : Place) : ldOne (xc x) 0 = some (int x.layer) := _root_.id rfl
theorem x26 (x : Place) : ldOne (xc x) 1 = some (int x.ino) := _root_.id rfl
structure Way where
  ino : Int
  up : Int
  name : ByteArray
  deriving Inhabited, DecidableEq
def encWay (x : Way) : AV := .agg [int x.ino, int x.up, str x.name]
theorem hs_Way (x : Way) : xj (encWay x) 3 = true := _root_.id rfl
theorem c_Way (x : Way) : closed (encWay x) = true := by simp [encWay, closed, closeds, cM_int, xhe, cM_str, cM_u8, cM_ik, cM_D, cM_LI, cM_LS, xfb, xeb, xv, xu, cM_Geo, c_Geo, xxe, x7f, x1f, xig, xmj, c_Attr, xmi, c_Node, xzh, x5h, x2l, x0k, xoj, xfj, xun, x8m]
theorem cM_Way (l : List Way) : closeds (l.map encWay) = true := xgb encWay c_Way l
theorem la_Way (x : Way) : ldAgg (encWay x) 0 3 = some (encWay x) := _root_.id rfl
theorem sz_Way (c0 c1 c2 : AV) (x : Way) : stAV (.agg [c0, c1, c2]) 0 (encWay x) = some (encWay x) := _root_.id rfl
theorem xfeb (x : Way) : ldOne (encWay x) 0 = some (int x.ino) := _root_.id rfl
theorem xafb (x : Way) : ldOne (encWay x) 1 = some (int x.up) := _root_.id rfl
theorem xieb (x : Way) : ldOne (encWay x) 2 = some (str x.name) := _root_.id rfl
structure View where
  upper : Int
  lower : List Place
  deriving Inhabited, DecidableEq
def xjb (x : View) : AV := .agg [int x.upper, (sll 2 xc) x.lower]
theorem x5fb (x : View) : xj (xjb x) 2 = true := _root_.id rfl
theorem c_View (x : View) : closed (xjb x) = true := by simp [xjb, closed, closeds, cM_int, xhe, cM_str, cM_u8, cM_ik, cM_D, cM_LI, cM_LS, xfb, xeb, xv, xu, cM_Geo, c_Geo, xxe, x7f, x1f, xig, xmj, c_Attr, xmi, c_Node, xzh, x5h, x2l, x0k, xoj, xfj, xun, x8m, cM_Way, c_Way]
theorem xqz (l : List View) : closeds (l.map xjb) = true := xgb xjb c_View l
theorem xifb (x : View) : ldAgg (xjb x) 0 2 = some (xjb x) := _root_.id rfl
theorem xggb (x y : View) : stAV (xjb x) 0 (xjb y) = some (xjb y) := _root_.id rfl
theorem xqgb (c0 c1 : AV) (x : View) : stAV (.agg [c0, c1]) 0 (xjb x) = some (xjb x) := _root_.id rfl
theorem x0ab (x : View) : ldOne (xjb x) 1 = some ((sll 2 xc) x.lower) := _root_.id rfl
structure redirect_tree where
  stack : Stack
  ways : List Way
  views : List View
  deriving Inhabited, DecidableEq
def xr (x : redirect_tree) : AV := .agg [int x.stack.geo.lowers, int x.stack.geo.inodes, int x.stack.geo.blocks, int x.stack.geo.log, (sll 13 xf) x.stack.upper.nodes, (sll 1 xi) x.stack.lowers, (sll 3 encWay) x.ways, (sll 2 xjb) x.views]
theorem xuw (x : redirect_tree) : xj (xr x) 8 = true := _root_.id rfl
theorem xul (x : redirect_tree) : closed (xr x) = true := by simp [xr, closed, closeds, cM_int, xhe, cM_str, cM_u8, cM_ik, cM_D, cM_LI, cM_LS, xfb, xeb, xv, xu, cM_Geo, c_Geo, xxe, x7f, x1f, xig, xmj, c_Attr, xmi, c_Node, xzh, x5h, x2l, x0k, xoj, xfj, xun, x8m, cM_Way, c_Way, xqz, c_View]
theorem xrw (l : List redirect_tree) : closeds (l.map xr) = true := xgb xr xul l
theorem x2v (x : redirect_tree) : ldAgg (xr x) 0 8 = some (xr x) := _root_.id rfl
theorem xiw (c0 c1 c2 c3 c4 c5 c6 c7 : AV) (x : redirect_tree) : stAV (.agg [c0, c1, c2, c3, c4, c5, c6, c7]) 0 (xr x) = some (xr x) := _root_.id rfl
theorem xgu (x : redirect_tree) : ldOne (xr x) 4 = some ((sll 13 xf) x.stack.upper.nodes) := _root_.id rfl
theorem xjs (x : redirect_tree) : ldOne (xr x) 6 = some ((sll 3 encWay) x.ways) := _root_.id rfl
theorem x2t (x : redirect_tree) : ldOne (xr x) 7 = some ((sll 2 xjb) x.views) := _root_.id rfl
structure Ar2_Int where
  c0 : Int
  c1 : Int
  deriving Inhabited, DecidableEq
def xz (x : Ar2_Int) : AV := .agg [int x.c0, int x.c1]
theorem xq7 (x : Ar2_Int) : xj (xz x) 2 = true := _root_.id rfl
theorem xkab (x : Ar2_Int) : closed (xz x) = true := by simp [xz, closed, closeds, cM_int, xhe, cM_str, cM_u8, cM_ik, cM_D, cM_LI, cM_LS, xfb, xeb, xv, xu, cM_Geo, c_Geo, xxe, x7f, x1f, xig, xmj, c_Attr, xmi, c_Node, xzh, x5h, x2l, x0k, xoj, xfj, xun, x8m, cM_Way, c_Way, xqz, c_View, xrw, xul]
theorem xt7 (l : List Ar2_Int) : closeds (l.map xz) = true := xgb xz xkab l
structure unicode_utf8_acceptRange where
  lo : Int
  hi : Int
  deriving Inhabited, DecidableEq
end Go.Proofs.YtfkgckbdknpcnaaGreatDoor.AL

