/- A law of the given program is proved: part 23 of 51. -/
import Derived.Test.YtapdjibjnfeipaaGreatDoorD22
set_option linter.all false
/- The program's data as Lean structures, as abstract values, and the rules of these; printed by gdata.py. -/
set_option linter.all false
namespace Go.Proofs.YtapdjibjnfeipaaGreatDoor.AL
abbrev xl : ByteArray := ⟨#[]⟩
abbrev ik (k : IntKind) (n : Int) : AV := .val (.int k n)
abbrev sll {α : Type} (s : Nat) (f : α → AV) (l : List α) : AV := .sl s (l.map f)
abbrev encD (d : List UInt8) : AV := .sl 1 (d.map u8)
theorem cM_int (l : List Int) : closeds (l.map int) = true := xu int (fun _ => _root_.id rfl) l
theorem xsd (l : List Bool) : closeds (l.map bool) = true := xu bool (fun _ => _root_.id rfl) l
theorem cM_str (l : List ByteArray) : closeds (l.map str) = true := xu str (fun _ => _root_.id rfl) l
theorem cM_u8 (l : List UInt8) : closeds (l.map u8) = true := xu u8 (fun _ => _root_.id rfl) l
theorem cM_ik (k : IntKind) (l : List Int) : closeds (l.map (ik k)) = true := xu (ik k) (fun _ => _root_.id rfl) l
theorem c_D (l : List UInt8) : closed (encD l) = true := cM_u8 l
theorem cM_D (l : List (List UInt8)) : closeds (l.map encD) = true := xu encD c_D l
theorem cM_LI (l : List (List Int)) : closeds (l.map (sll 1 int)) = true := xu (sll 1 int) (fun x => by simp only [closed]; exact cM_int x) l
theorem cM_LS (l : List (List ByteArray)) : closeds (l.map (sll 1 str)) = true := xu (sll 1 str) (fun x => by simp only [closed]; exact cM_str x) l
structure runtime_boundsError where
  x : Int
  y : Int
  signed : Bool
  code : Int
  deriving Inhabited, DecidableEq
def xkd (x : runtime_boundsError) : AV := .agg [int x.x, int x.y, bool x.signed, (ik .u8) x.code]
theorem xw (x : runtime_boundsError) : closed (xkd x) = true := by simp [xkd, closed, closeds, cM_int, xsd, cM_str, cM_u8, cM_ik, cM_D, cM_LI, cM_LS]
theorem xy (l : List runtime_boundsError) : closeds (l.map xkd) = true := xu xkd xw l
structure runtime_errorAddressString where
  msg : ByteArray
  addr : Int
  deriving Inhabited, DecidableEq
def xec (x : runtime_errorAddressString) : AV := .agg [str x.msg, (ik .u64) x.addr]
theorem xm (x : runtime_errorAddressString) : closed (xec x) = true := by simp [xec, closed, closeds, cM_int, xsd, cM_str, cM_u8, cM_ik, cM_D, cM_LI, cM_LS, xy, xw]
theorem xo (l : List runtime_errorAddressString) : closeds (l.map xec) = true := xu xec xm l
structure Geo where
  lowers : Int
  inodes : Int
  blocks : Int
  log : Int
  deriving Inhabited, DecidableEq
def encGeo (x : Geo) : AV := .agg [int x.lowers, int x.inodes, int x.blocks, int x.log]
theorem c_Geo (x : Geo) : closed (encGeo x) = true := by simp [encGeo, closed, closeds, cM_int, xsd, cM_str, cM_u8, cM_ik, cM_D, cM_LI, cM_LS, xy, xw, xo, xm]
theorem cM_Geo (l : List Geo) : closeds (l.map encGeo) = true := xu encGeo c_Geo l
structure Entry where
  slot : Int
  ino : Int
  name : ByteArray
  deriving Inhabited, DecidableEq
def xr (x : Entry) : AV := .agg [int x.slot, int x.ino, str x.name]
theorem x83 (x : Entry) : xd (xr x) 3 = true := _root_.id rfl
theorem xle (x : Entry) : closed (xr x) = true := by simp [xr, closed, closeds, cM_int, xsd, cM_str, cM_u8, cM_ik, cM_D, cM_LI, cM_LS, xy, xw, xo, xm, cM_Geo, c_Geo]
theorem xee (l : List Entry) : closeds (l.map xr) = true := xu xr xle l
theorem x13 (x : Entry) : ldAgg (xr x) 0 3 = some (xr x) := _root_.id rfl
theorem xi4 (x y : Entry) : stAV (xr x) 0 (xr y) = some (xr y) := _root_.id rfl
theorem x33 (c0 c1 c2 : AV) (x : Entry) : stAV (.agg [c0, c1, c2]) 0 (xr x) = some (xr x) := _root_.id rfl
theorem xd1 (x : Entry) : ldOne (xr x) 0 = some (int x.slot) := _root_.id rfl
theorem xq0 (x : Entry) : ldOne (xr x) 1 = some (int x.ino) := _root_.id rfl
theorem xv0 (x : Entry) : ldOne (xr x) 2 = some (str x.name) := _root_.id rfl
structure Origin where
  layer : Int
  ino : Int
  gen : Int
  deriving Inhabited, DecidableEq
def x9k (x : Origin) : AV := .agg [int x.layer, int x.ino, int x.gen]
theorem xve (x : Origin) : closed (x9k x) = true := by simp [x9k, closed, closeds, cM_int, xsd, cM_str, cM_u8, cM_ik, cM_D, cM_LI, cM_LS, xy, xw, xo, xm, cM_Geo, c_Geo, xee, xle]
theorem xpe (l : List Origin) : closeds (l.map x9k) = true := xu x9k xve l
structure Attr where
  has : Int
  opaque0 : Int
  redirect : ByteArray
  origin : Origin
  shown : Int
  deriving Inhabited, DecidableEq
def x7h (x : Attr) : AV := .agg [int x.has, int x.opaque0, str x.redirect, int x.origin.layer, int x.origin.ino, int x.origin.gen, int x.shown]
theorem xa7 (x : Attr) : xd (x7h x) 7 = true := _root_.id rfl
theorem c_Attr (x : Attr) : closed (x7h x) = true := by simp [x7h, closed, closeds, cM_int, xsd, cM_str, cM_u8, cM_ik, cM_D, cM_LI, cM_LS, xy, xw, xo, xm, cM_Geo, c_Geo, xee, xle, xpe, xve]
theorem xni (l : List Attr) : closeds (l.map x7h) = true := xu x7h c_Attr l
theorem xt2 (x : Attr) : ldOne (x7h x) 0 = some (int x.has) := _root_.id rfl
structure Node where
  kind : Int
  impure : Int
  nlink : Int
  gen : Int
  data : List UInt8
  entries : List Entry
  attr : Attr
  deriving Inhabited, DecidableEq
def xh (x : Node) : AV := .agg [int x.kind, int x.impure, int x.nlink, int x.gen, encD x.data, (sll 3 xr) x.entries, int x.attr.has, int x.attr.opaque0, str x.attr.redirect, int x.attr.origin.layer, int x.attr.origin.ino, int x.attr.origin.gen, int x.attr.shown]
theorem xx7 (x : Node) : xd (xh x) 13 = true := _root_.id rfl
theorem c_Node (x : Node) : closed (xh x) = true := by simp [xh, closed, closeds, cM_int, xsd, cM_str, cM_u8, cM_ik, cM_D, cM_LI, cM_LS, xy, xw, xo, xm, cM_Geo, c_Geo, xee, xle, xpe, xve, xni, c_Attr]
theorem xli (l : List Node) : closeds (l.map xh) = true := xu xh c_Node l
theorem x37 (x : Node) : ldAgg (xh x) 0 13 = some (xh x) := _root_.id rfl
theorem xb7 (c0 c1 c2 c3 c4 c5 c6 c7 c8 c9 c10 c11 c12 : AV) (x : Node) : stAV (.agg [c0, c1, c2, c3, c4, c5, c6, c7, c8, c9, c10, c11, c12]) 0 (xh x) = some (xh x) := _root_.id rfl
theorem x22 (x : Node) : ldOne (xh x) 0 = some (int x.kind) := _root_.id rfl
theorem xd3 (x : Node) : partO 0 (xh x) = some (int x.kind) := _root_.id rfl
theorem xn2 (x : Node) : ldOne (xh x) 2 = some (int x.nlink) := _root_.id rfl
theorem xu2 (x : Node) : ldOne (xh x) 4 = some (encD x.data) := _root_.id rfl
theorem xk2 (x : Node) : ldOne (xh x) 5 = some ((sll 3 xr) x.entries) := _root_.id rfl
theorem x62 (x : Node) (l n : Nat) : stAV (xh x) 5 (.msl l n) = some (.agg [int x.kind, int x.impure, int x.nlink, int x.gen, encD x.data, .msl l n, int x.attr.has, int x.attr.opaque0, str x.attr.redirect, int x.attr.origin.layer, int x.attr.origin.ino, int x.attr.origin.gen, int x.attr.shown]) := _root_.id rfl
theorem x12 (x : Node) : partO 5 (xh x) = some ((sll 3 xr) x.entries) := _root_.id rfl
theorem xez (x : Node) : ldAgg (xh x) 6 7 = some (x7h x.attr) := _root_.id rfl
theorem xd2 (x : Node) : ldOne (xh x) 6 = some (int x.attr.has) := _root_.id rfl
theorem xq2 (x : Node) : ldOne (xh x) 7 = some (int x.attr.opaque0) := _root_.id rfl
theorem xv2 (x : Node) : ldOne (xh x) 8 = some (str x.attr.redirect) := _root_.id rfl
structure Branch where
  nodes : List Node
  deriving Inhabited, DecidableEq
def xk (x : Branch) : AV := .agg [(sll 13 xh) x.nodes]
theorem xo3 (x : Branch) : xd (xk x) 1 = true := _root_.id rfl
theorem xlg (x : Branch) : closed (xk x) = true := by simp [xk, closed, closeds, cM_int, xsd, cM_str, cM_u8, cM_ik, cM_D, cM_LI, cM_LS, xy, xw, xo, xm, cM_Geo, c_Geo, xee, xle, xpe, xve, xni, c_Attr, xli, c_Node]
theorem xdg (l : List Branch) : closeds (l.map xk) = true := xu xk xlg l
theorem xi2 (x : Branch) : ldAgg (xk x) 0 1 = some (xk x) := _root_.id rfl
theorem x80 (x : Branch) : ldOne (xk x) 0 = some ((sll 13 xh) x.nodes) := _root_.id rfl
theorem xl3 (x : Branch) : AV.cells (xk x) = [(sll 13 xh) x.nodes] := _root_.id rfl
structure Stack where
  geo : Geo
  upper : Branch
  lowers : List Branch
  deriving Inhabited, DecidableEq
def xi (x : Stack) : AV := .agg [int x.geo.lowers, int x.geo.inodes, int x.geo.blocks, int x.geo.log, (sll 13 xh) x.upper.nodes, (sll 1 xk) x.lowers]
theorem xg4 (x : Stack) : xd (xi x) 6 = true := _root_.id rfl
theorem xxj (x : Stack) : closed (xi x) = true := by simp [xi, closed, closeds, cM_int, xsd, cM_str, cM_u8, cM_ik, cM_D, cM_LI, cM_LS, xy, xw, xo, xm, cM_Geo, c_Geo, xee, xle, xpe, xve, xni, c_Attr, xli, c_Node, xdg, xlg]
theorem xom (l : List Stack) : closeds (l.map xi) = true := xu xi xxj l
theorem xe5 (x : Stack) : ldAgg (xi x) 0 6 = some (xi x) := _root_.id rfl
theorem xc5 (c0 c1 c2 c3 c4 c5 : AV) (x : Stack) : stAV (.agg [c0, c1, c2, c3, c4, c5]) 0 (xi x) = some (xi x) := _root_.id rfl
theorem xs5 (x : Stack) : AV.cells (xi x) = [int x.geo.lowers, int x.geo.inodes, int x.geo.blocks, int x.geo.log, (sll 13 xh) x.upper.nodes, (sll 1 xk) x.lowers] := _root_.id rfl
theorem xfy (x : Stack) : ldAgg (xi x) 4 1 = some (xk x.upper) := _root_.id rfl
theorem xo0 (x : Stack) : ldOne (xi x) 4 = some ((sll 13 xh) x.upper.nodes) := _root_.id rfl
theorem xc1 (x : Stack) (l n : Nat) : stAV (xi x) 4 (.msl l n) = some (.agg [int x.geo.lowers, int x.geo.inodes, int x.geo.blocks, int x.geo.log, .msl l n, (sll 1 xk) x.lowers]) := _root_.id rfl
theorem xh1 (x : Stack) : ldOne (xi x) 5 = some ((sll 1 xk) x.lowers) := _root_.id rfl
structure Place where
  layer : Int
  ino : Int
  deriving Inhabited, DecidableEq
def xg (x : Place) : AV := .agg [int x.layer, int x.ino]
theorem xm4 (x : Place) : xd (xg x) 2 = true := _root_.id rfl
theorem xfm (x : Place) : closed (xg x) = true := by simp [xg, closed, closeds, cM_int, xsd, cM_str, cM_u8, cM_ik, cM_D, cM_LI, cM_LS, xy, xw, xo, xm, cM_Geo, c_Geo, xee, xle, xpe, xve, xni, c_Attr, xli, c_Node, xdg, xlg, xom, xxj]
theorem xym (l : List Place) : closeds (l.map xg) = true := xu xg xfm l
theorem xa5 (x : Place) : ldAgg (xg x) 0 2 = some (xg x) := _root_.id rfl
theorem xp5 (x y : Place) : stAV (xg x) 0 (xg y) = some (xg y) := _root_.id rfl
theorem xk4 (c0 c1 : AV) (x : Place) : stAV (.agg [c0, c1]) 0 (xg x) = some (xg x) := _root_.id rfl
theorem x94 (c0 c1 : AV) (x : Place) : stAV (xg x) 0 (.agg [c0, c1]) = some (.agg [c0, c1]) := _root_.id rfl
theorem xj1 (x : Place) : ldOne (xg x) 0 = some (int x.layer) := _root_.id rfl
theorem x00 (x : Place) : ldOne (xg x) 1 = some (int x.ino) := _root_.id rfl
structure View where
  upper : Int
  lower : List Place
  deriving Inhabited, DecidableEq
def xfb (x : View) : AV := .agg [int x.upper, (sll 2 xg) x.lower]
theorem xe6 (x : View) : xd (xfb x) 2 = true := _root_.id rfl
theorem c_View (x : View) : closed (xfb x) = true := by simp [xfb, closed, closeds, cM_int, xsd, cM_str, cM_u8, cM_ik, cM_D, cM_LI, cM_LS, xy, xw, xo, xm, cM_Geo, c_Geo, xee, xle, xpe, xve, xni, c_Attr, xli, c_Node, xdg, xlg, xom, xxj, xym, xfm]
theorem xyr (l : List View) : closeds (l.map xfb) = true := xu xfb c_View l
theorem xc7 (x : View) : ldAgg (xfb x) 0 2 = some (xfb x) := _root_.id rfl
theorem xj7 (x y : View) : stAV (xfb x) 0 (xfb y) = some (xfb y) := _root_.id rfl
theorem xg6 (c0 c1 : AV) (x : View) : stAV (.agg [c0, c1]) 0 (xfb x) = some (xfb x) := _root_.id rfl
theorem x92 (x : View) : ldOne (xfb x) 0 = some (int x.upper) := _root_.id rfl
theorem x41 (x : View) : ldOne (xfb x) 1 = some ((sll 2 xg) x.lower) := _root_.id rfl
structure Finding where
  clause : Int
  layer : Int
  ino : Int
  slot : Int
  deriving Inhabited, DecidableEq
def xrl (x : Finding) : AV := .agg [int x.clause, int x.layer, int x.ino, int x.slot]
theorem xoq (x : Finding) : closed (xrl x) = true := by simp [xrl, closed, closeds, cM_int, xsd, cM_str, cM_u8, cM_ik, cM_D, cM_LI, cM_LS, xy, xw, xo, xm, cM_Geo, c_Geo, xee, xle, xpe, xve, xni, c_Attr, xli, c_Node, xdg, xlg, xom, xxj, xym, xfm, xyr, c_View]
theorem x9o (l : List Finding) : closeds (l.map xrl) = true := xu xrl xoq l
structure Way where
  ino : Int
  up : Int
  name : ByteArray
  deriving Inhabited, DecidableEq
def encWay (x : Way) : AV := .agg [int x.ino, int x.up, str x.name]
theorem hs_Way (x : Way) : xd (encWay x) 3 = true := _root_.id rfl
theorem c_Way (x : Way) : closed (encWay x) = true := by simp [encWay, closed, closeds, cM_int, xsd, cM_str, cM_u8, cM_ik, cM_D, cM_LI, cM_LS, xy, xw, xo, xm, cM_Geo, c_Geo, xee, xle, xpe, xve, xni, c_Attr, xli, c_Node, xdg, xlg, xom, xxj, xym, xfm, xyr, c_View, x9o, xoq]
theorem cM_Way (l : List Way) : closeds (l.map encWay) = true := xu encWay c_Way l
theorem la_Way (x : Way) : ldAgg (encWay x) 0 3 = some (encWay x) := _root_.id rfl
theorem sz_Way (c0 c1 c2 : AV) (x : Way) : stAV (.agg [c0, c1, c2]) 0 (encWay x) = some (encWay x) := _root_.id rfl
theorem xh4 (x : Way) : ldOne (encWay x) 0 = some (int x.ino) := _root_.id rfl
theorem xm5 (x : Way) : ldOne (encWay x) 1 = some (int x.up) := _root_.id rfl
theorem x34 (x : Way) : ldOne (encWay x) 2 = some (str x.name) := _root_.id rfl
structure Ar2_Int where
  c0 : Int
  c1 : Int
  deriving Inhabited, DecidableEq
def xxb (x : Ar2_Int) : AV := .agg [int x.c0, int x.c1]
theorem xe1 (x : Ar2_Int) : xd (xxb x) 2 = true := _root_.id rfl
theorem xl2 (x : Ar2_Int) : closed (xxb x) = true := by simp [xxb, closed, closeds, cM_int, xsd, cM_str, cM_u8, cM_ik, cM_D, cM_LI, cM_LS, xy, xw, xo, xm, cM_Geo, c_Geo, xee, xle, xpe, xve, xni, c_Attr, xli, c_Node, xdg, xlg, xom, xxj, xym, xfm, xyr, c_View, x9o, xoq, cM_Way, c_Way]
theorem xa1 (l : List Ar2_Int) : closeds (l.map xxb) = true := xu xxb xl2 l
structure unicode_utf8_acceptRange where
  lo : Int
  hi : Int
  deriving Inhabited, DecidableEq
end Go.Proofs.YtapdjibjnfeipaaGreatDoor.AL

