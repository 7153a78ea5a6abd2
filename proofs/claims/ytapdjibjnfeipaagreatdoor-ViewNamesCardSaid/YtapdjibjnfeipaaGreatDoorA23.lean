/- What any node of any stack should say of copies, and which say otherwise, is what the document says: part 23 of 52. -/
import Derived.Test.YtapdjibjnfeipaaGreatDoorA22
set_option linter.all false
/- The program's data as Lean structures, as abstract values, and the rules of these; printed by gdata.py. -/
set_option linter.all false
namespace Go.Proofs.YtapdjibjnfeipaaGreatDoor.AL
abbrev xo : ByteArray := ⟨#[]⟩
abbrev ik (k : IntKind) (n : Int) : AV := .val (.int k n)
abbrev sll {α : Type} (s : Nat) (f : α → AV) (l : List α) : AV := .sl s (l.map f)
abbrev encD (d : List UInt8) : AV := .sl 1 (d.map u8)
theorem cM_int (l : List Int) : closeds (l.map int) = true := xz int (fun _ => _root_.id rfl) l
theorem xoe (l : List Bool) : closeds (l.map bool) = true := xz bool (fun _ => _root_.id rfl) l
theorem cM_str (l : List ByteArray) : closeds (l.map str) = true := xz str (fun _ => _root_.id rfl) l
theorem cM_u8 (l : List UInt8) : closeds (l.map u8) = true := xz u8 (fun _ => _root_.id rfl) l
theorem cM_ik (k : IntKind) (l : List Int) : closeds (l.map (ik k)) = true := xz (ik k) (fun _ => _root_.id rfl) l
theorem c_D (l : List UInt8) : closed (encD l) = true := cM_u8 l
theorem cM_D (l : List (List UInt8)) : closeds (l.map encD) = true := xz encD c_D l
theorem cM_LI (l : List (List Int)) : closeds (l.map (sll 1 int)) = true := xz (sll 1 int) (fun x => by simp only [closed]; exact cM_int x) l
theorem cM_LS (l : List (List ByteArray)) : closeds (l.map (sll 1 str)) = true := xz (sll 1 str) (fun x => by simp only [closed]; exact cM_str x) l
structure runtime_boundsError where
  x : Int
  y : Int
  signed : Bool
  code : Int
  deriving Inhabited, DecidableEq
def xee (x : runtime_boundsError) : AV := .agg [int x.x, int x.y, bool x.signed, (ik .u8) x.code]
theorem xab (x : runtime_boundsError) : closed (xee x) = true := by simp [xee, closed, closeds, cM_int, xoe, cM_str, cM_u8, cM_ik, cM_D, cM_LI, cM_LS]
theorem xbb (l : List runtime_boundsError) : closeds (l.map xee) = true := xz xee xab l
structure runtime_errorAddressString where
  msg : ByteArray
  addr : Int
  deriving Inhabited, DecidableEq
def xsc (x : runtime_errorAddressString) : AV := .agg [str x.msg, (ik .u64) x.addr]
theorem xr (x : runtime_errorAddressString) : closed (xsc x) = true := by simp [xsc, closed, closeds, cM_int, xoe, cM_str, cM_u8, cM_ik, cM_D, cM_LI, cM_LS, xbb, xab]
theorem xu (l : List runtime_errorAddressString) : closeds (l.map xsc) = true := xz xsc xr l
structure Geo where
  lowers : Int
  inodes : Int
  blocks : Int
  log : Int
  deriving Inhabited, DecidableEq
def encGeo (x : Geo) : AV := .agg [int x.lowers, int x.inodes, int x.blocks, int x.log]
theorem c_Geo (x : Geo) : closed (encGeo x) = true := by simp [encGeo, closed, closeds, cM_int, xoe, cM_str, cM_u8, cM_ik, cM_D, cM_LI, cM_LS, xbb, xab, xu, xr]
theorem cM_Geo (l : List Geo) : closeds (l.map encGeo) = true := xz encGeo c_Geo l
structure Entry where
  slot : Int
  ino : Int
  name : ByteArray
  deriving Inhabited, DecidableEq
def xx (x : Entry) : AV := .agg [int x.slot, int x.ino, str x.name]
theorem xabb (x : Entry) : xh (xx x) 3 = true := _root_.id rfl
theorem xuf (x : Entry) : closed (xx x) = true := by simp [xx, closed, closeds, cM_int, xoe, cM_str, cM_u8, cM_ik, cM_D, cM_LI, cM_LS, xbb, xab, xu, xr, cM_Geo, c_Geo]
theorem xif (l : List Entry) : closeds (l.map xx) = true := xz xx xuf l
theorem x2ab (x : Entry) : ldAgg (xx x) 0 3 = some (xx x) := _root_.id rfl
theorem x99 (x y : Entry) : stAV (xx x) 0 (xx y) = some (xx y) := _root_.id rfl
theorem xf9 (c0 c1 c2 : AV) (x : Entry) : stAV (.agg [c0, c1, c2]) 0 (xx x) = some (xx x) := _root_.id rfl
theorem xx6 (x : Entry) : ldOne (xx x) 0 = some (int x.slot) := _root_.id rfl
theorem x26 (x : Entry) : ldOne (xx x) 1 = some (int x.ino) := _root_.id rfl
theorem xs6 (x : Entry) : ldOne (xx x) 2 = some (str x.name) := _root_.id rfl
structure Origin where
  layer : Int
  ino : Int
  gen : Int
  deriving Inhabited, DecidableEq
def xbn (x : Origin) : AV := .agg [int x.layer, int x.ino, int x.gen]
theorem x4f (x : Origin) : closed (xbn x) = true := by simp [xbn, closed, closeds, cM_int, xoe, cM_str, cM_u8, cM_ik, cM_D, cM_LI, cM_LS, xbb, xab, xu, xr, cM_Geo, c_Geo, xif, xuf]
theorem xxf (l : List Origin) : closeds (l.map xbn) = true := xz xbn x4f l
structure Attr where
  has : Int
  opaque0 : Int
  redirect : ByteArray
  origin : Origin
  shown : Int
  deriving Inhabited, DecidableEq
def x5i (x : Attr) : AV := .agg [int x.has, int x.opaque0, str x.redirect, int x.origin.layer, int x.origin.ino, int x.origin.gen, int x.shown]
theorem xvbb (x : Attr) : xh (x5i x) 7 = true := _root_.id rfl
theorem c_Attr (x : Attr) : closed (x5i x) = true := by simp [x5i, closed, closeds, cM_int, xoe, cM_str, cM_u8, cM_ik, cM_D, cM_LI, cM_LS, xbb, xab, xu, xr, cM_Geo, c_Geo, xif, xuf, xxf, x4f]
theorem xxk (l : List Attr) : closeds (l.map x5i) = true := xz x5i c_Attr l
theorem xv7 (x : Attr) : ldOne (x5i x) 0 = some (int x.has) := _root_.id rfl
structure Node where
  kind : Int
  impure : Int
  nlink : Int
  gen : Int
  data : List UInt8
  entries : List Entry
  attr : Attr
  deriving Inhabited, DecidableEq
def xm (x : Node) : AV := .agg [int x.kind, int x.impure, int x.nlink, int x.gen, encD x.data, (sll 3 xx) x.entries, int x.attr.has, int x.attr.opaque0, str x.attr.redirect, int x.attr.origin.layer, int x.attr.origin.ino, int x.attr.origin.gen, int x.attr.shown]
theorem x1db (x : Node) : xh (xm x) 13 = true := _root_.id rfl
theorem c_Node (x : Node) : closed (xm x) = true := by simp [xm, closed, closeds, cM_int, xoe, cM_str, cM_u8, cM_ik, cM_D, cM_LI, cM_LS, xbb, xab, xu, xr, cM_Geo, c_Geo, xif, xuf, xxf, x4f, xxk, c_Attr]
theorem xnk (l : List Node) : closeds (l.map xm) = true := xz xm c_Node l
theorem x2bb (x : Node) : ldAgg (xm x) 0 13 = some (xm x) := _root_.id rfl
theorem x4cb (c0 c1 c2 c3 c4 c5 c6 c7 c8 c9 c10 c11 c12 : AV) (x : Node) : stAV (.agg [c0, c1, c2, c3, c4, c5, c6, c7, c8, c9, c10, c11, c12]) 0 (xm x) = some (xm x) := _root_.id rfl
theorem xj8 (x : Node) : ldOne (xm x) 0 = some (int x.kind) := _root_.id rfl
theorem xy8 (x : Node) : partO 0 (xm x) = some (int x.kind) := _root_.id rfl
theorem xr8 (x : Node) : ldOne (xm x) 2 = some (int x.nlink) := _root_.id rfl
theorem xv8 (x : Node) : ldOne (xm x) 4 = some (encD x.data) := _root_.id rfl
theorem x08 (x : Node) : ldOne (xm x) 5 = some ((sll 3 xx) x.entries) := _root_.id rfl
theorem xc8 (x : Node) : partO 5 (xm x) = some ((sll 3 xx) x.entries) := _root_.id rfl
theorem xv4 (x : Node) : ldAgg (xm x) 6 7 = some (x5i x.attr) := _root_.id rfl
theorem xx8 (x : Node) : ldOne (xm x) 6 = some (int x.attr.has) := _root_.id rfl
theorem x96 (x : Node) : ldOne (xm x) 7 = some (int x.attr.opaque0) := _root_.id rfl
theorem x78 (x : Node) : ldOne (xm x) 8 = some (str x.attr.redirect) := _root_.id rfl
structure Branch where
  nodes : List Node
  deriving Inhabited, DecidableEq
def xp (x : Branch) : AV := .agg [(sll 13 xm) x.nodes]
theorem xa7 (x : Branch) : xh (xp x) 1 = true := _root_.id rfl
theorem x0h (x : Branch) : closed (xp x) = true := by simp [xp, closed, closeds, cM_int, xoe, cM_str, cM_u8, cM_ik, cM_D, cM_LI, cM_LS, xbb, xab, xu, xr, cM_Geo, c_Geo, xif, xuf, xxf, x4f, xxk, c_Attr, xnk, c_Node]
theorem x3h (l : List Branch) : closeds (l.map xp) = true := xz xp x0h l
theorem x28 (x : Branch) : ldAgg (xp x) 0 1 = some (xp x) := _root_.id rfl
theorem xh6 (x : Branch) : ldOne (xp x) 0 = some ((sll 13 xm) x.nodes) := _root_.id rfl
theorem xi7 (x : Branch) : AV.cells (xp x) = [(sll 13 xm) x.nodes] := _root_.id rfl
structure Stack where
  geo : Geo
  upper : Branch
  lowers : List Branch
  deriving Inhabited, DecidableEq
def xe (x : Stack) : AV := .agg [int x.geo.lowers, int x.geo.inodes, int x.geo.blocks, int x.geo.log, (sll 13 xm) x.upper.nodes, (sll 1 xp) x.lowers]
theorem xyab (x : Stack) : xh (xe x) 6 = true := _root_.id rfl
theorem xkm (x : Stack) : closed (xe x) = true := by simp [xe, closed, closeds, cM_int, xoe, cM_str, cM_u8, cM_ik, cM_D, cM_LI, cM_LS, xbb, xab, xu, xr, cM_Geo, c_Geo, xif, xuf, xxf, x4f, xxk, c_Attr, xnk, c_Node, x3h, x0h]
theorem xqp (l : List Stack) : closeds (l.map xe) = true := xz xe xkm l
theorem xgbb (x : Stack) : ldAgg (xe x) 0 6 = some (xe x) := _root_.id rfl
theorem xqbb (c0 c1 c2 c3 c4 c5 : AV) (x : Stack) : stAV (.agg [c0, c1, c2, c3, c4, c5]) 0 (xe x) = some (xe x) := _root_.id rfl
theorem xhbb (x : Stack) : AV.cells (xe x) = [int x.geo.lowers, int x.geo.inodes, int x.geo.blocks, int x.geo.log, (sll 13 xm) x.upper.nodes, (sll 1 xp) x.lowers] := _root_.id rfl
theorem x53 (x : Stack) : ldAgg (xe x) 4 1 = some (xp x.upper) := _root_.id rfl
theorem xz5 (x : Stack) : ldOne (xe x) 4 = some ((sll 13 xm) x.upper.nodes) := _root_.id rfl
theorem xz6 (x : Stack) : ldOne (xe x) 5 = some ((sll 1 xp) x.lowers) := _root_.id rfl
structure Place where
  layer : Int
  ino : Int
  deriving Inhabited, DecidableEq
def xb (x : Place) : AV := .agg [int x.layer, int x.ino]
theorem x89 (x : Place) : xh (xb x) 2 = true := _root_.id rfl
theorem x5n (x : Place) : closed (xb x) = true := by simp [xb, closed, closeds, cM_int, xoe, cM_str, cM_u8, cM_ik, cM_D, cM_LI, cM_LS, xbb, xab, xu, xr, cM_Geo, c_Geo, xif, xuf, xxf, x4f, xxk, c_Attr, xnk, c_Node, x3h, x0h, xqp, xkm]
theorem x7o (l : List Place) : closeds (l.map xb) = true := xz xb x5n l
theorem xeab (x : Place) : ldAgg (xb x) 0 2 = some (xb x) := _root_.id rfl
theorem xlab (x y : Place) : stAV (xb x) 0 (xb y) = some (xb y) := _root_.id rfl
theorem xrab (c0 c1 : AV) (x : Place) : stAV (.agg [c0, c1]) 0 (xb x) = some (xb x) := _root_.id rfl
theorem xgab (c0 c1 : AV) (x : Place) : stAV (xb x) 0 (.agg [c0, c1]) = some (.agg [c0, c1]) := _root_.id rfl
theorem xv5 (x : Place) : ldOne (xb x) 0 = some (int x.layer) := _root_.id rfl
theorem xw5 (x : Place) : ldOne (xb x) 1 = some (int x.ino) := _root_.id rfl
structure View where
  upper : Int
  lower : List Place
  deriving Inhabited, DecidableEq
def xl (x : View) : AV := .agg [int x.upper, (sll 2 xb) x.lower]
theorem x5bb (x : View) : xh (xl x) 2 = true := _root_.id rfl
theorem c_View (x : View) : closed (xl x) = true := by simp [xl, closed, closeds, cM_int, xoe, cM_str, cM_u8, cM_ik, cM_D, cM_LI, cM_LS, xbb, xab, xu, xr, cM_Geo, c_Geo, xif, xuf, xxf, x4f, xxk, c_Attr, xnk, c_Node, x3h, x0h, xqp, xkm, x7o, x5n]
theorem xiv (l : List View) : closeds (l.map xl) = true := xz xl c_View l
theorem xgcb (x : View) : ldAgg (xl x) 0 2 = some (xl x) := _root_.id rfl
theorem x0bb (x y : View) : stAV (xl x) 0 (xl y) = some (xl y) := _root_.id rfl
theorem xucb (c0 c1 : AV) (x : View) : stAV (.agg [c0, c1]) 0 (xl x) = some (xl x) := _root_.id rfl
theorem xq8 (x : View) : ldOne (xl x) 0 = some (int x.upper) := _root_.id rfl
theorem xx7 (x : View) : ldOne (xl x) 1 = some ((sll 2 xb) x.lower) := _root_.id rfl
structure Finding where
  clause : Int
  layer : Int
  ino : Int
  slot : Int
  deriving Inhabited, DecidableEq
def x2n (x : Finding) : AV := .agg [int x.clause, int x.layer, int x.ino, int x.slot]
theorem xzt (x : Finding) : closed (x2n x) = true := by simp [x2n, closed, closeds, cM_int, xoe, cM_str, cM_u8, cM_ik, cM_D, cM_LI, cM_LS, xbb, xab, xu, xr, cM_Geo, c_Geo, xif, xuf, xxf, x4f, xxk, c_Attr, xnk, c_Node, x3h, x0h, xqp, xkm, x7o, x5n, xiv, c_View]
theorem xds (l : List Finding) : closeds (l.map x2n) = true := xz x2n xzt l
structure Way where
  ino : Int
  up : Int
  name : ByteArray
  deriving Inhabited, DecidableEq
def encWay (x : Way) : AV := .agg [int x.ino, int x.up, str x.name]
theorem hs_Way (x : Way) : xh (encWay x) 3 = true := _root_.id rfl
theorem c_Way (x : Way) : closed (encWay x) = true := by simp [encWay, closed, closeds, cM_int, xoe, cM_str, cM_u8, cM_ik, cM_D, cM_LI, cM_LS, xbb, xab, xu, xr, cM_Geo, c_Geo, xif, xuf, xxf, x4f, xxk, c_Attr, xnk, c_Node, x3h, x0h, xqp, xkm, x7o, x5n, xiv, c_View, xds, xzt]
theorem cM_Way (l : List Way) : closeds (l.map encWay) = true := xz encWay c_Way l
theorem la_Way (x : Way) : ldAgg (encWay x) 0 3 = some (encWay x) := _root_.id rfl
theorem sz_Way (c0 c1 c2 : AV) (x : Way) : stAV (.agg [c0, c1, c2]) 0 (encWay x) = some (encWay x) := _root_.id rfl
theorem xobb (x : Way) : ldOne (encWay x) 0 = some (int x.ino) := _root_.id rfl
theorem xfab (x : Way) : ldOne (encWay x) 1 = some (int x.up) := _root_.id rfl
theorem xj9 (x : Way) : ldOne (encWay x) 2 = some (str x.name) := _root_.id rfl
structure Ar2_Int where
  c0 : Int
  c1 : Int
  deriving Inhabited, DecidableEq
def xfc (x : Ar2_Int) : AV := .agg [int x.c0, int x.c1]
theorem xn6 (x : Ar2_Int) : xh (xfc x) 2 = true := _root_.id rfl
theorem xc7 (x : Ar2_Int) : closed (xfc x) = true := by simp [xfc, closed, closeds, cM_int, xoe, cM_str, cM_u8, cM_ik, cM_D, cM_LI, cM_LS, xbb, xab, xu, xr, cM_Geo, c_Geo, xif, xuf, xxf, x4f, xxk, c_Attr, xnk, c_Node, x3h, x0h, xqp, xkm, x7o, x5n, xiv, c_View, xds, xzt, cM_Way, c_Way]
theorem xy5 (l : List Ar2_Int) : closeds (l.map xfc) = true := xz xfc xc7 l
structure unicode_utf8_acceptRange where
  lo : Int
  hi : Int
  deriving Inhabited, DecidableEq
end Go.Proofs.YtapdjibjnfeipaaGreatDoor.AL

