/- What any node of any stack should say of copies, and which say otherwise, is what the document says: part 23 of 51. -/
import Derived.Test.YtfefidkblgendaaGreatDoorA22
set_option linter.all false
/- The program's data as Lean structures, as abstract values, and the rules of these; printed by gdata.py. -/
set_option linter.all false
namespace Go.Proofs.YtfefidkblgendaaGreatDoor.AL
abbrev xl : ByteArray := ⟨#[]⟩
abbrev ik (k : IntKind) (n : Int) : AV := .val (.int k n)
abbrev sll {α : Type} (s : Nat) (f : α → AV) (l : List α) : AV := .sl s (l.map f)
abbrev encD (d : List UInt8) : AV := .sl 1 (d.map u8)
theorem cM_int (l : List Int) : closeds (l.map int) = true := xbb int (fun _ => _root_.id rfl) l
theorem xcf (l : List Bool) : closeds (l.map bool) = true := xbb bool (fun _ => _root_.id rfl) l
theorem cM_str (l : List ByteArray) : closeds (l.map str) = true := xbb str (fun _ => _root_.id rfl) l
theorem cM_u8 (l : List UInt8) : closeds (l.map u8) = true := xbb u8 (fun _ => _root_.id rfl) l
theorem cM_ik (k : IntKind) (l : List Int) : closeds (l.map (ik k)) = true := xbb (ik k) (fun _ => _root_.id rfl) l
theorem c_D (l : List UInt8) : closed (encD l) = true := cM_u8 l
theorem cM_D (l : List (List UInt8)) : closeds (l.map encD) = true := xbb encD c_D l
theorem cM_LI (l : List (List Int)) : closeds (l.map (sll 1 int)) = true := xbb (sll 1 int) (fun x => by simp only [closed]; exact cM_int x) l
theorem cM_LS (l : List (List ByteArray)) : closeds (l.map (sll 1 str)) = true := xbb (sll 1 str) (fun x => by simp only [closed]; exact cM_str x) l
structure runtime_boundsError where
  x : Int
  y : Int
  signed : Bool
  code : Int
  deriving Inhabited, DecidableEq
def xae (x : runtime_boundsError) : AV := .agg [int x.x, int x.y, bool x.signed, (ik .u8) x.code]
theorem xeb (x : runtime_boundsError) : closed (xae x) = true := by simp [xae, closed, closeds, cM_int, xcf, cM_str, cM_u8, cM_ik, cM_D, cM_LI, cM_LS]
theorem xjb (l : List runtime_boundsError) : closeds (l.map xae) = true := xbb xae xeb l
structure runtime_errorAddressString where
  msg : ByteArray
  addr : Int
  deriving Inhabited, DecidableEq
def xtc (x : runtime_errorAddressString) : AV := .agg [str x.msg, (ik .u64) x.addr]
theorem xt (x : runtime_errorAddressString) : closed (xtc x) = true := by simp [xtc, closed, closeds, cM_int, xcf, cM_str, cM_u8, cM_ik, cM_D, cM_LI, cM_LS, xjb, xeb]
theorem xv (l : List runtime_errorAddressString) : closeds (l.map xtc) = true := xbb xtc xt l
structure Geo where
  lowers : Int
  inodes : Int
  blocks : Int
  log : Int
  deriving Inhabited, DecidableEq
def encGeo (x : Geo) : AV := .agg [int x.lowers, int x.inodes, int x.blocks, int x.log]
theorem c_Geo (x : Geo) : closed (encGeo x) = true := by simp [encGeo, closed, closeds, cM_int, xcf, cM_str, cM_u8, cM_ik, cM_D, cM_LI, cM_LS, xjb, xeb, xv, xt]
theorem cM_Geo (l : List Geo) : closeds (l.map encGeo) = true := xbb encGeo c_Geo l
structure Entry where
  slot : Int
  ino : Int
  name : ByteArray
  deriving Inhabited, DecidableEq
def xab (x : Entry) : AV := .agg [int x.slot, int x.ino, str x.name]
theorem xgbb (x : Entry) : xj (xab x) 3 = true := _root_.id rfl
theorem xmg (x : Entry) : closed (xab x) = true := by simp [xab, closed, closeds, cM_int, xcf, cM_str, cM_u8, cM_ik, cM_D, cM_LI, cM_LS, xjb, xeb, xv, xt, cM_Geo, c_Geo]
theorem xcg (l : List Entry) : closeds (l.map xab) = true := xbb xab xmg l
theorem xedb (x : Entry) : ldAgg (xab x) 0 3 = some (xab x) := _root_.id rfl
theorem xccb (x y : Entry) : stAV (xab x) 0 (xab y) = some (xab y) := _root_.id rfl
theorem xhcb (c0 c1 c2 : AV) (x : Entry) : stAV (.agg [c0, c1, c2]) 0 (xab x) = some (xab x) := _root_.id rfl
theorem xh8 (x : Entry) : ldOne (xab x) 0 = some (int x.slot) := _root_.id rfl
theorem xy8 (x : Entry) : ldOne (xab x) 1 = some (int x.ino) := _root_.id rfl
theorem xy7 (x : Entry) : ldOne (xab x) 2 = some (str x.name) := _root_.id rfl
structure Origin where
  layer : Int
  ino : Int
  gen : Int
  deriving Inhabited, DecidableEq
def xxd (x : Origin) : AV := .agg [int x.layer, int x.ino, int x.gen]
theorem x68 (x : Origin) : xj (xxd x) 3 = true := _root_.id rfl
theorem xag (x : Origin) : closed (xxd x) = true := by simp [xxd, closed, closeds, cM_int, xcf, cM_str, cM_u8, cM_ik, cM_D, cM_LI, cM_LS, xjb, xeb, xv, xt, cM_Geo, c_Geo, xcg, xmg]
theorem xyg (l : List Origin) : closeds (l.map xxd) = true := xbb xxd xag l
theorem xj6 (x : Origin) : ldOne (xxd x) 0 = some (int x.layer) := _root_.id rfl
theorem xb6 (x : Origin) : ldOne (xxd x) 1 = some (int x.ino) := _root_.id rfl
theorem xe6 (x : Origin) : ldOne (xxd x) 2 = some (int x.gen) := _root_.id rfl
structure Attr where
  has : Int
  opaque0 : Int
  redirect : ByteArray
  origin : Origin
  shown : Int
  deriving Inhabited, DecidableEq
def xwi (x : Attr) : AV := .agg [int x.has, int x.opaque0, str x.redirect, int x.origin.layer, int x.origin.ino, int x.origin.gen, int x.shown]
theorem xweb (x : Attr) : xj (xwi x) 7 = true := _root_.id rfl
theorem c_Attr (x : Attr) : closed (xwi x) = true := by simp [xwi, closed, closeds, cM_int, xcf, cM_str, cM_u8, cM_ik, cM_D, cM_LI, cM_LS, xjb, xeb, xv, xt, cM_Geo, c_Geo, xcg, xmg, xyg, xag]
theorem xzm (l : List Attr) : closeds (l.map xwi) = true := xbb xwi c_Attr l
theorem xfab (x : Attr) : ldOne (xwi x) 0 = some (int x.has) := _root_.id rfl
structure Node where
  kind : Int
  impure : Int
  nlink : Int
  gen : Int
  data : List UInt8
  entries : List Entry
  attr : Attr
  deriving Inhabited, DecidableEq
def xo (x : Node) : AV := .agg [int x.kind, int x.impure, int x.nlink, int x.gen, encD x.data, (sll 3 xab) x.entries, int x.attr.has, int x.attr.opaque0, str x.attr.redirect, int x.attr.origin.layer, int x.attr.origin.ino, int x.attr.origin.gen, int x.attr.shown]
theorem xoeb (x : Node) : xj (xo x) 13 = true := _root_.id rfl
theorem c_Node (x : Node) : closed (xo x) = true := by simp [xo, closed, closeds, cM_int, xcf, cM_str, cM_u8, cM_ik, cM_D, cM_LI, cM_LS, xjb, xeb, xv, xt, cM_Geo, c_Geo, xcg, xmg, xyg, xag, xzm, c_Attr]
theorem xpm (l : List Node) : closeds (l.map xo) = true := xbb xo c_Node l
theorem x1fb (x : Node) : ldAgg (xo x) 0 13 = some (xo x) := _root_.id rfl
theorem xnfb (x y : Node) : stAV (xo x) 0 (xo y) = some (xo y) := _root_.id rfl
theorem xeeb (c0 c1 c2 c3 c4 c5 c6 c7 c8 c9 c10 c11 c12 : AV) (x : Node) : stAV (.agg [c0, c1, c2, c3, c4, c5, c6, c7, c8, c9, c10, c11, c12]) 0 (xo x) = some (xo x) := _root_.id rfl
theorem xwab (x : Node) : ldOne (xo x) 0 = some (int x.kind) := _root_.id rfl
theorem xk9 (x : Node) : partO 0 (xo x) = some (int x.kind) := _root_.id rfl
theorem xiab (x : Node) : ldOne (xo x) 2 = some (int x.nlink) := _root_.id rfl
theorem xj9 (x : Node) : ldOne (xo x) 3 = some (int x.gen) := _root_.id rfl
theorem xu9 (x : Node) : ldOne (xo x) 4 = some (encD x.data) := _root_.id rfl
theorem xlab (x : Node) : ldOne (xo x) 5 = some ((sll 3 xab) x.entries) := _root_.id rfl
theorem xf6 (x : Node) : ldAgg (xo x) 6 7 = some (xwi x.attr) := _root_.id rfl
theorem xnab (x : Node) : ldOne (xo x) 6 = some (int x.attr.has) := _root_.id rfl
theorem x89 (x : Node) : ldOne (xo x) 7 = some (int x.attr.opaque0) := _root_.id rfl
theorem xi9 (x : Node) : ldOne (xo x) 8 = some (str x.attr.redirect) := _root_.id rfl
theorem x85 (x : Node) : ldAgg (xo x) 9 3 = some (xxd x.attr.origin) := _root_.id rfl
structure Branch where
  nodes : List Node
  deriving Inhabited, DecidableEq
def xcb (x : Branch) : AV := .agg [(sll 13 xo) x.nodes]
theorem x7ab (x : Branch) : xj (xcb x) 1 = true := _root_.id rfl
theorem xhk (x : Branch) : closed (xcb x) = true := by simp [xcb, closed, closeds, cM_int, xcf, cM_str, cM_u8, cM_ik, cM_D, cM_LI, cM_LS, xjb, xeb, xv, xt, cM_Geo, c_Geo, xcg, xmg, xyg, xag, xzm, c_Attr, xpm, c_Node]
theorem x5k (l : List Branch) : closeds (l.map xcb) = true := xbb xcb xhk l
theorem x5ab (x : Branch) : ldAgg (xcb x) 0 1 = some (xcb x) := _root_.id rfl
theorem xr8 (x : Branch) : ldOne (xcb x) 0 = some ((sll 13 xo) x.nodes) := _root_.id rfl
structure Stack where
  geo : Geo
  upper : Branch
  lowers : List Branch
  deriving Inhabited, DecidableEq
def xf (x : Stack) : AV := .agg [int x.geo.lowers, int x.geo.inodes, int x.geo.blocks, int x.geo.log, (sll 13 xo) x.upper.nodes, (sll 1 xcb) x.lowers]
theorem xibb (x : Stack) : xj (xf x) 6 = true := _root_.id rfl
theorem xio (x : Stack) : closed (xf x) = true := by simp [xf, closed, closeds, cM_int, xcf, cM_str, cM_u8, cM_ik, cM_D, cM_LI, cM_LS, xjb, xeb, xv, xt, cM_Geo, c_Geo, xcg, xmg, xyg, xag, xzm, c_Attr, xpm, c_Node, x5k, xhk]
theorem x9r (l : List Stack) : closeds (l.map xf) = true := xbb xf xio l
theorem xjbb (x : Stack) : ldAgg (xf x) 0 6 = some (xf x) := _root_.id rfl
theorem xpbb (c0 c1 c2 c3 c4 c5 : AV) (x : Stack) : stAV (.agg [c0, c1, c2, c3, c4, c5]) 0 (xf x) = some (xf x) := _root_.id rfl
theorem xkcb (x : Stack) : AV.cells (xf x) = [int x.geo.lowers, int x.geo.inodes, int x.geo.blocks, int x.geo.log, (sll 13 xo) x.upper.nodes, (sll 1 xcb) x.lowers] := _root_.id rfl
theorem x54 (x : Stack) : ldAgg (xf x) 4 1 = some (xcb x.upper) := _root_.id rfl
theorem xs7 (x : Stack) : ldOne (xf x) 4 = some ((sll 13 xo) x.upper.nodes) := _root_.id rfl
theorem xo8 (x : Stack) : ldOne (xf x) 5 = some ((sll 1 xcb) x.lowers) := _root_.id rfl
structure Seen where
  kind : Int
  data : List UInt8
  names : List ByteArray
  deriving Inhabited, DecidableEq
def xub (x : Seen) : AV := .agg [int x.kind, encD x.data, (sll 1 str) x.names]
theorem x0eb (x : Seen) : xj (xub x) 3 = true := _root_.id rfl
theorem c_Seen (x : Seen) : closed (xub x) = true := by simp [xub, closed, closeds, cM_int, xcf, cM_str, cM_u8, cM_ik, cM_D, cM_LI, cM_LS, xjb, xeb, xv, xt, cM_Geo, c_Geo, xcg, xmg, xyg, xag, xzm, c_Attr, xpm, c_Node, x5k, xhk, x9r, xio]
theorem xzz (l : List Seen) : closeds (l.map xub) = true := xbb xub c_Seen l
theorem xxdb (x : Seen) : ldAgg (xub x) 0 3 = some (xub x) := _root_.id rfl
theorem xqeb (c0 c1 c2 : AV) (x : Seen) : stAV (.agg [c0, c1, c2]) 0 (xub x) = some (xub x) := _root_.id rfl
theorem xf9 (x : Seen) : ldOne (xub x) 0 = some (int x.kind) := _root_.id rfl
theorem xsab (x : Seen) : ldOne (xub x) 1 = some (encD x.data) := _root_.id rfl
theorem x99 (x : Seen) : ldOne (xub x) 2 = some ((sll 1 str) x.names) := _root_.id rfl
structure Place where
  layer : Int
  ino : Int
  deriving Inhabited, DecidableEq
def xc (x : Place) : AV := .agg [int x.layer, int x.ino]
theorem xadb (x : Place) : xj (xc x) 2 = true := _root_.id rfl
theorem xcw (x : Place) : closed (xc x) = true := by simp [xc, closed, closeds, cM_int, xcf, cM_str, cM_u8, cM_ik, cM_D, cM_LI, cM_LS, xjb, xeb, xv, xt, cM_Geo, c_Geo, xcg, xmg, xyg, xag, xzm, c_Attr, xpm, c_Node, x5k, xhk, x9r, xio, xzz, c_Seen]
theorem x2x (l : List Place) : closeds (l.map xc) = true := xbb xc xcw l
theorem xycb (x : Place) : ldAgg (xc x) 0 2 = some (xc x) := _root_.id rfl
theorem xlbb (x y : Place) : stAV (xc x) 0 (xc y) = some (xc y) := _root_.id rfl
theorem xrbb (c0 c1 : AV) (x : Place) : stAV (.agg [c0, c1]) 0 (xc x) = some (xc x) := _root_.id rfl
theorem xdbb (c0 c1 : AV) (x : Place) : stAV (xc x) 0 (.agg [c0, c1]) = some (.agg [c0, c1]) := _root_.id rfl
theorem x57 (x : Place) : ldOne (xc x) 0 = some (int x.layer) := _root_.id rfl
theorem x67 (x : Place) : ldOne (xc x) 1 = some (int x.ino) := _root_.id rfl
structure View where
  upper : Int
  lower : List Place
  deriving Inhabited, DecidableEq
def xn (x : View) : AV := .agg [int x.upper, (sll 2 xc) x.lower]
theorem x7db (x : View) : xj (xn x) 2 = true := _root_.id rfl
theorem c_View (x : View) : closed (xn x) = true := by simp [xn, closed, closeds, cM_int, xcf, cM_str, cM_u8, cM_ik, cM_D, cM_LI, cM_LS, xjb, xeb, xv, xt, cM_Geo, c_Geo, xcg, xmg, xyg, xag, xzm, c_Attr, xpm, c_Node, x5k, xhk, x9r, xio, xzz, c_Seen, x2x, xcw]
theorem xzdb (l : List View) : closeds (l.map xn) = true := xbb xn c_View l
theorem xseb (x : View) : ldAgg (xn x) 0 2 = some (xn x) := _root_.id rfl
theorem xcfb (x y : View) : stAV (xn x) 0 (xn y) = some (xn y) := _root_.id rfl
theorem xceb (c0 c1 : AV) (x : View) : stAV (.agg [c0, c1]) 0 (xn x) = some (xn x) := _root_.id rfl
theorem xbfb (x : View) : AV.cells (xn x) = [int x.upper, (sll 2 xc) x.lower] := _root_.id rfl
theorem xq9 (x : View) : ldOne (xn x) 0 = some (int x.upper) := _root_.id rfl
theorem x9ab (x : View) : ldOne (xn x) 1 = some ((sll 2 xc) x.lower) := _root_.id rfl
structure merge_shown where
  view : View
  place : Place
  kind : Int
  deriving Inhabited, DecidableEq
def xu (x : merge_shown) : AV := .agg [int x.view.upper, (sll 2 xc) x.view.lower, int x.place.layer, int x.place.ino, int x.kind]
theorem xg0 (x : merge_shown) : xj (xu x) 5 = true := _root_.id rfl
theorem xh3 (x : merge_shown) : closed (xu x) = true := by simp [xu, closed, closeds, cM_int, xcf, cM_str, cM_u8, cM_ik, cM_D, cM_LI, cM_LS, xjb, xeb, xv, xt, cM_Geo, c_Geo, xcg, xmg, xyg, xag, xzm, c_Attr, xpm, c_Node, x5k, xhk, x9r, xio, xzz, c_Seen, x2x, xcw, xzdb, c_View]
theorem x30 (x : merge_shown) : ldAgg (xu x) 0 5 = some (xu x) := _root_.id rfl
theorem x3z (c0 c1 c2 c3 c4 : AV) (x : merge_shown) : stAV (.agg [c0, c1, c2, c3, c4]) 0 (xu x) = some (xu x) := _root_.id rfl
theorem xcv (x : merge_shown) : ldAgg (xu x) 0 2 = some (xn x.view) := _root_.id rfl
theorem xeu (x : merge_shown) (v : View) : stAV (xu x) 0 (xn v) = some (xu { x with view := v }) := _root_.id rfl
theorem x1x (x : merge_shown) : ldOne (xu x) 0 = some (int x.view.upper) := _root_.id rfl
theorem x5x (x : merge_shown) : ldOne (xu x) 1 = some ((sll 2 xc) x.view.lower) := _root_.id rfl
theorem x4u (x : merge_shown) : ldAgg (xu x) 2 2 = some (xc x.place) := _root_.id rfl
theorem xrv (x : merge_shown) (v : Place) : stAV (xu x) 2 (xc v) = some (xu { x with place := v }) := _root_.id rfl
theorem xjx (x : merge_shown) (v : Int) : stAV (xu x) 3 (int v) = some (xu { x with place := { x.place with ino := v } }) := _root_.id rfl
theorem xox (x : merge_shown) : ldOne (xu x) 4 = some (int x.kind) := _root_.id rfl
theorem xqx (x : merge_shown) (v : Int) : stAV (xu x) 4 (int v) = some (xu { x with kind := v }) := _root_.id rfl
structure unicode_utf8_acceptRange where
  lo : Int
  hi : Int
  deriving Inhabited, DecidableEq
end Go.Proofs.YtfefidkblgendaaGreatDoor.AL

