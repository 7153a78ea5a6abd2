/- A law of the given program is proved: part 23 of 49. -/
import Derived.Test.YtmacnoajlofdbaaDoorA22
set_option linter.all false
/- The program's data as Lean structures, as abstract values, and the rules of these; printed by gdata.py. -/
set_option linter.all false
namespace Go.Proofs.YtmacnoajlofdbaaDoor.AL
abbrev xl : ByteArray := ⟨#[]⟩
abbrev ik (k : IntKind) (n : Int) : AV := .val (.int k n)
abbrev sll {α : Type} (s : Nat) (f : α → AV) (l : List α) : AV := .sl s (l.map f)
abbrev encD (d : List UInt8) : AV := .sl 1 (d.map u8)
theorem cM_int (l : List Int) : closeds (l.map int) = true := xcb int (fun _ => _root_.id rfl) l
theorem xxd (l : List Bool) : closeds (l.map bool) = true := xcb bool (fun _ => _root_.id rfl) l
theorem cM_str (l : List ByteArray) : closeds (l.map str) = true := xcb str (fun _ => _root_.id rfl) l
theorem cM_u8 (l : List UInt8) : closeds (l.map u8) = true := xcb u8 (fun _ => _root_.id rfl) l
theorem cM_ik (k : IntKind) (l : List Int) : closeds (l.map (ik k)) = true := xcb (ik k) (fun _ => _root_.id rfl) l
theorem c_D (l : List UInt8) : closed (encD l) = true := cM_u8 l
theorem cM_D (l : List (List UInt8)) : closeds (l.map encD) = true := xcb encD c_D l
theorem cM_LI (l : List (List Int)) : closeds (l.map (sll 1 int)) = true := xcb (sll 1 int) (fun x => by simp only [closed]; exact cM_int x) l
theorem cM_LS (l : List (List ByteArray)) : closeds (l.map (sll 1 str)) = true := xcb (sll 1 str) (fun x => by simp only [closed]; exact cM_str x) l
structure runtime_boundsError where
  x : Int
  y : Int
  signed : Bool
  code : Int
  deriving Inhabited, DecidableEq
def xde (x : runtime_boundsError) : AV := .agg [int x.x, int x.y, bool x.signed, (ik .u8) x.code]
theorem xab (x : runtime_boundsError) : closed (xde x) = true := by simp [xde, closed, closeds, cM_int, xxd, cM_str, cM_u8, cM_ik, cM_D, cM_LI, cM_LS]
theorem xbb (l : List runtime_boundsError) : closeds (l.map xde) = true := xcb xde xab l
structure runtime_errorAddressString where
  msg : ByteArray
  addr : Int
  deriving Inhabited, DecidableEq
def xuc (x : runtime_errorAddressString) : AV := .agg [str x.msg, (ik .u64) x.addr]
theorem xr (x : runtime_errorAddressString) : closed (xuc x) = true := by simp [xuc, closed, closeds, cM_int, xxd, cM_str, cM_u8, cM_ik, cM_D, cM_LI, cM_LS, xbb, xab]
theorem xt (l : List runtime_errorAddressString) : closeds (l.map xuc) = true := xcb xuc xr l
structure Geo where
  lowers : Int
  inodes : Int
  blocks : Int
  log : Int
  deriving Inhabited, DecidableEq
def encGeo (x : Geo) : AV := .agg [int x.lowers, int x.inodes, int x.blocks, int x.log]
theorem c_Geo (x : Geo) : closed (encGeo x) = true := by simp [encGeo, closed, closeds, cM_int, xxd, cM_str, cM_u8, cM_ik, cM_D, cM_LI, cM_LS, xbb, xab, xt, xr]
theorem cM_Geo (l : List Geo) : closeds (l.map encGeo) = true := xcb encGeo c_Geo l
structure Entry where
  slot : Int
  ino : Int
  name : ByteArray
  deriving Inhabited, DecidableEq
def xp (x : Entry) : AV := .agg [int x.slot, int x.ino, str x.name]
theorem xjab (x : Entry) : xi (xp x) 3 = true := _root_.id rfl
theorem x5e (x : Entry) : closed (xp x) = true := by simp [xp, closed, closeds, cM_int, xxd, cM_str, cM_u8, cM_ik, cM_D, cM_LI, cM_LS, xbb, xab, xt, xr, cM_Geo, c_Geo]
theorem x8d (l : List Entry) : closeds (l.map xp) = true := xcb xp x5e l
theorem xd9 (x : Entry) : ldAgg (xp x) 0 3 = some (xp x) := _root_.id rfl
theorem xkbb (c0 c1 c2 : AV) (x : Entry) : stAV (.agg [c0, c1, c2]) 0 (xp x) = some (xp x) := _root_.id rfl
theorem xg3 (x : Entry) : ldOne (xp x) 0 = some (int x.slot) := _root_.id rfl
theorem xb5 (x : Entry) : ldOne (xp x) 1 = some (int x.ino) := _root_.id rfl
theorem xw4 (x : Entry) : ldOne (xp x) 2 = some (str x.name) := _root_.id rfl
structure Origin where
  layer : Int
  ino : Int
  gen : Int
  deriving Inhabited, DecidableEq
def xge (x : Origin) : AV := .agg [int x.layer, int x.ino, int x.gen]
theorem xq5 (x : Origin) : xi (xge x) 3 = true := _root_.id rfl
theorem xbf (x : Origin) : closed (xge x) = true := by simp [xge, closed, closeds, cM_int, xxd, cM_str, cM_u8, cM_ik, cM_D, cM_LI, cM_LS, xbb, xab, xt, xr, cM_Geo, c_Geo, x8d, x5e]
theorem x2e (l : List Origin) : closeds (l.map xge) = true := xcb xge xbf l
structure Attr where
  has : Int
  opaque0 : Int
  redirect : ByteArray
  origin : Origin
  shown : Int
  deriving Inhabited, DecidableEq
def x8b (x : Attr) : AV := .agg [int x.has, int x.opaque0, str x.redirect, int x.origin.layer, int x.origin.ino, int x.origin.gen, int x.shown]
theorem x5bb (x : Attr) : xi (x8b x) 7 = true := _root_.id rfl
theorem c_Attr (x : Attr) : closed (x8b x) = true := by simp [x8b, closed, closeds, cM_int, xxd, cM_str, cM_u8, cM_ik, cM_D, cM_LI, cM_LS, xbb, xab, xt, xr, cM_Geo, c_Geo, x8d, x5e, x2e, xbf]
theorem xmi (l : List Attr) : closeds (l.map x8b) = true := xcb x8b c_Attr l
theorem xbdb (x : Attr) : ldAgg (x8b x) 0 7 = some (x8b x) := _root_.id rfl
theorem x6eb (c0 c1 c2 c3 c4 c5 c6 : AV) (x : Attr) : stAV (.agg [c0, c1, c2, c3, c4, c5, c6]) 0 (x8b x) = some (x8b x) := _root_.id rfl
theorem xb7 (x : Attr) : ldOne (x8b x) 0 = some (int x.has) := _root_.id rfl
theorem xq7 (x : Attr) (v : Int) : stAV (x8b x) 0 (int v) = some (x8b { x with has := v }) := _root_.id rfl
theorem x27 (x : Attr) (v : Int) : stAV (x8b x) 1 (int v) = some (x8b { x with opaque0 := v }) := _root_.id rfl
theorem xw5 (x : Attr) (v : ByteArray) : stAV (x8b x) 2 (str v) = some (x8b { x with redirect := v }) := _root_.id rfl
theorem xd2 (x : Attr) (v : Origin) : stAV (x8b x) 3 (xge v) = some (x8b { x with origin := v }) := _root_.id rfl
theorem xm6 (x : Attr) (v : Int) : stAV (x8b x) 6 (int v) = some (x8b { x with shown := v }) := _root_.id rfl
structure Node where
  kind : Int
  impure : Int
  nlink : Int
  gen : Int
  data : List UInt8
  entries : List Entry
  attr : Attr
  deriving Inhabited, DecidableEq
def xe (x : Node) : AV := .agg [int x.kind, int x.impure, int x.nlink, int x.gen, encD x.data, (sll 3 xp) x.entries, int x.attr.has, int x.attr.opaque0, str x.attr.redirect, int x.attr.origin.layer, int x.attr.origin.ino, int x.attr.origin.gen, int x.attr.shown]
theorem xqeb (x : Node) : xi (xe x) 13 = true := _root_.id rfl
theorem c_Node (x : Node) : closed (xe x) = true := by simp [xe, closed, closeds, cM_int, xxd, cM_str, cM_u8, cM_ik, cM_D, cM_LI, cM_LS, xbb, xab, xt, xr, cM_Geo, c_Geo, x8d, x5e, x2e, xbf, xmi, c_Attr]
theorem xah (l : List Node) : closeds (l.map xe) = true := xcb xe c_Node l
theorem xmcb (x : Node) : ldAgg (xe x) 0 13 = some (xe x) := _root_.id rfl
theorem xdeb (c0 c1 c2 c3 c4 c5 c6 c7 c8 c9 c10 c11 c12 : AV) (x : Node) : stAV (.agg [c0, c1, c2, c3, c4, c5, c6, c7, c8, c9, c10, c11, c12]) 0 (xe x) = some (xe x) := _root_.id rfl
theorem x76 (x : Node) : ldOne (xe x) 0 = some (int x.kind) := _root_.id rfl
theorem xu5 (x : Node) : partO 0 (xe x) = some (int x.kind) := _root_.id rfl
theorem xs6 (x : Node) : ldOne (xe x) 2 = some (int x.nlink) := _root_.id rfl
theorem xh5 (x : Node) : ldOne (xe x) 4 = some (encD x.data) := _root_.id rfl
theorem xr5 (x : Node) : ldOne (xe x) 5 = some ((sll 3 xp) x.entries) := _root_.id rfl
theorem xi6 (x : Node) : partO 5 (xe x) = some ((sll 3 xp) x.entries) := _root_.id rfl
theorem x41 (x : Node) : ldAgg (xe x) 6 7 = some (x8b x.attr) := _root_.id rfl
theorem xz1 (x : Node) (v : Attr) : stAV (xe x) 6 (x8b v) = some (xe { x with attr := v }) := _root_.id rfl
theorem xo6 (x : Node) : ldOne (xe x) 6 = some (int x.attr.has) := _root_.id rfl
theorem x16 (x : Node) : ldOne (xe x) 7 = some (int x.attr.opaque0) := _root_.id rfl
theorem xm7 (x : Node) : ldOne (xe x) 8 = some (str x.attr.redirect) := _root_.id rfl
structure Branch where
  nodes : List Node
  deriving Inhabited, DecidableEq
def xk (x : Branch) : AV := .agg [(sll 13 xe) x.nodes]
theorem x17 (x : Branch) : xi (xk x) 1 = true := _root_.id rfl
theorem xyg (x : Branch) : closed (xk x) = true := by simp [xk, closed, closeds, cM_int, xxd, cM_str, cM_u8, cM_ik, cM_D, cM_LI, cM_LS, xbb, xab, xt, xr, cM_Geo, c_Geo, x8d, x5e, x2e, xbf, xmi, c_Attr, xah, c_Node]
theorem xsg (l : List Branch) : closeds (l.map xk) = true := xcb xk xyg l
theorem xh7 (x : Branch) : ldAgg (xk x) 0 1 = some (xk x) := _root_.id rfl
theorem xp3 (x : Branch) : ldOne (xk x) 0 = some ((sll 13 xe) x.nodes) := _root_.id rfl
theorem xs7 (x : Branch) : AV.cells (xk x) = [(sll 13 xe) x.nodes] := _root_.id rfl
structure Stack where
  geo : Geo
  upper : Branch
  lowers : List Branch
  deriving Inhabited, DecidableEq
def xx (x : Stack) : AV := .agg [int x.geo.lowers, int x.geo.inodes, int x.geo.blocks, int x.geo.log, (sll 13 xe) x.upper.nodes, (sll 1 xk) x.lowers]
theorem xpab (x : Stack) : xi (xx x) 6 = true := _root_.id rfl
theorem xej (x : Stack) : closed (xx x) = true := by simp [xx, closed, closeds, cM_int, xxd, cM_str, cM_u8, cM_ik, cM_D, cM_LI, cM_LS, xbb, xab, xt, xr, cM_Geo, c_Geo, x8d, x5e, x2e, xbf, xmi, c_Attr, xah, c_Node, xsg, xyg]
theorem xek (l : List Stack) : closeds (l.map xx) = true := xcb xx xej l
theorem xd8 (x : Stack) : ldAgg (xx x) 0 6 = some (xx x) := _root_.id rfl
theorem xo8 (c0 c1 c2 c3 c4 c5 : AV) (x : Stack) : stAV (.agg [c0, c1, c2, c3, c4, c5]) 0 (xx x) = some (xx x) := _root_.id rfl
theorem xp9 (x : Stack) : AV.cells (xx x) = [int x.geo.lowers, int x.geo.inodes, int x.geo.blocks, int x.geo.log, (sll 13 xe) x.upper.nodes, (sll 1 xk) x.lowers] := _root_.id rfl
theorem xc1 (x : Stack) : ldAgg (xx x) 4 1 = some (xk x.upper) := _root_.id rfl
theorem xi4 (x : Stack) : ldOne (xx x) 4 = some ((sll 13 xe) x.upper.nodes) := _root_.id rfl
theorem x03 (x : Stack) (l n : Nat) : stAV (xx x) 4 (.msl l n) = some (.agg [int x.geo.lowers, int x.geo.inodes, int x.geo.blocks, int x.geo.log, .msl l n, (sll 1 xk) x.lowers]) := _root_.id rfl
theorem xc3 (x : Stack) : ldOne (xx x) 5 = some ((sll 1 xk) x.lowers) := _root_.id rfl
structure Finding where
  clause : Int
  layer : Int
  ino : Int
  slot : Int
  deriving Inhabited, DecidableEq
def xq (x : Finding) : AV := .agg [int x.clause, int x.layer, int x.ino, int x.slot]
theorem xq3 (x : Finding) : xi (xq x) 4 = true := _root_.id rfl
theorem xoh (x : Finding) : closed (xq x) = true := by simp [xq, closed, closeds, cM_int, xxd, cM_str, cM_u8, cM_ik, cM_D, cM_LI, cM_LS, xbb, xab, xt, xr, cM_Geo, c_Geo, x8d, x5e, x2e, xbf, xmi, c_Attr, xah, c_Node, xsg, xyg, xek, xej]
theorem xji (l : List Finding) : closeds (l.map xq) = true := xcb xq xoh l
theorem xq4 (x : Finding) : ldAgg (xq x) 0 4 = some (xq x) := _root_.id rfl
theorem x44 (c0 c1 c2 c3 : AV) (x : Finding) : stAV (.agg [c0, c1, c2, c3]) 0 (xq x) = some (xq x) := _root_.id rfl
theorem xyz (x : Finding) : ldOne (xq x) 0 = some (int x.clause) := _root_.id rfl
theorem xy0 (x : Finding) : ldOne (xq x) 2 = some (int x.ino) := _root_.id rfl
structure Place where
  layer : Int
  ino : Int
  deriving Inhabited, DecidableEq
def xj (x : Place) : AV := .agg [int x.layer, int x.ino]
theorem xmbb (x : Place) : xi (xj x) 2 = true := _root_.id rfl
theorem xjl (x : Place) : closed (xj x) = true := by simp [xj, closed, closeds, cM_int, xxd, cM_str, cM_u8, cM_ik, cM_D, cM_LI, cM_LS, xbb, xab, xt, xr, cM_Geo, c_Geo, x8d, x5e, x2e, xbf, xmi, c_Attr, xah, c_Node, xsg, xyg, xek, xej, xji, xoh]
theorem xvl (l : List Place) : closeds (l.map xj) = true := xcb xj xjl l
theorem xl8 (x : Place) : ldAgg (xj x) 0 2 = some (xj x) := _root_.id rfl
theorem xeab (x y : Place) : stAV (xj x) 0 (xj y) = some (xj y) := _root_.id rfl
theorem xnab (c0 c1 : AV) (x : Place) : stAV (.agg [c0, c1]) 0 (xj x) = some (xj x) := _root_.id rfl
theorem xb3 (x : Place) : ldOne (xj x) 0 = some (int x.layer) := _root_.id rfl
theorem x43 (x : Place) : ldOne (xj x) 1 = some (int x.ino) := _root_.id rfl
structure Way where
  ino : Int
  up : Int
  name : ByteArray
  deriving Inhabited, DecidableEq
def encWay (x : Way) : AV := .agg [int x.ino, int x.up, str x.name]
theorem hs_Way (x : Way) : xi (encWay x) 3 = true := _root_.id rfl
theorem c_Way (x : Way) : closed (encWay x) = true := by simp [encWay, closed, closeds, cM_int, xxd, cM_str, cM_u8, cM_ik, cM_D, cM_LI, cM_LS, xbb, xab, xt, xr, cM_Geo, c_Geo, x8d, x5e, x2e, xbf, xmi, c_Attr, xah, c_Node, xsg, xyg, xek, xej, xji, xoh, xvl, xjl]
theorem cM_Way (l : List Way) : closeds (l.map encWay) = true := xcb encWay c_Way l
theorem la_Way (x : Way) : ldAgg (encWay x) 0 3 = some (encWay x) := _root_.id rfl
theorem sz_Way (c0 c1 c2 : AV) (x : Way) : stAV (.agg [c0, c1, c2]) 0 (encWay x) = some (encWay x) := _root_.id rfl
theorem x4ab (x : Way) : ldOne (encWay x) 0 = some (int x.ino) := _root_.id rfl
theorem xg8 (x : Way) : ldOne (encWay x) 1 = some (int x.up) := _root_.id rfl
theorem xtbb (x : Way) : ldOne (encWay x) 2 = some (str x.name) := _root_.id rfl
structure View where
  upper : Int
  lower : List Place
  deriving Inhabited, DecidableEq
def xac (x : View) : AV := .agg [int x.upper, (sll 2 xj) x.lower]
theorem xleb (x : View) : xi (xac x) 2 = true := _root_.id rfl
theorem c_View (x : View) : closed (xac x) = true := by simp [xac, closed, closeds, cM_int, xxd, cM_str, cM_u8, cM_ik, cM_D, cM_LI, cM_LS, xbb, xab, xt, xr, cM_Geo, c_Geo, x8d, x5e, x2e, xbf, xmi, c_Attr, xah, c_Node, xsg, xyg, xek, xej, xji, xoh, xvl, xjl, cM_Way, c_Way]
theorem xqv (l : List View) : closeds (l.map xac) = true := xcb xac c_View l
theorem xceb (x : View) : ldAgg (xac x) 0 2 = some (xac x) := _root_.id rfl
theorem xadb (x y : View) : stAV (xac x) 0 (xac y) = some (xac y) := _root_.id rfl
theorem x0db (c0 c1 : AV) (x : View) : stAV (.agg [c0, c1]) 0 (xac x) = some (xac x) := _root_.id rfl
theorem xw7 (x : View) : ldOne (xac x) 1 = some ((sll 2 xj) x.lower) := _root_.id rfl
structure redirect_tree where
  stack : Stack
  ways : List Way
  views : List View
  deriving Inhabited, DecidableEq
def xo (x : redirect_tree) : AV := .agg [int x.stack.geo.lowers, int x.stack.geo.inodes, int x.stack.geo.blocks, int x.stack.geo.log, (sll 13 xe) x.stack.upper.nodes, (sll 1 xk) x.stack.lowers, (sll 3 encWay) x.ways, (sll 2 xac) x.views]
theorem xyt (x : redirect_tree) : xi (xo x) 8 = true := _root_.id rfl
theorem x4j (x : redirect_tree) : closed (xo x) = true := by simp [xo, closed, closeds, cM_int, xxd, cM_str, cM_u8, cM_ik, cM_D, cM_LI, cM_LS, xbb, xab, xt, xr, cM_Geo, c_Geo, x8d, x5e, x2e, xbf, xmi, c_Attr, xah, c_Node, xsg, xyg, xek, xej, xji, xoh, xvl, xjl, cM_Way, c_Way, xqv, c_View]
theorem x1t (l : List redirect_tree) : closeds (l.map xo) = true := xcb xo x4j l
theorem xjt (x : redirect_tree) : ldAgg (xo x) 0 8 = some (xo x) := _root_.id rfl
theorem xht (c0 c1 c2 c3 c4 c5 c6 c7 : AV) (x : redirect_tree) : stAV (.agg [c0, c1, c2, c3, c4, c5, c6, c7]) 0 (xo x) = some (xo x) := _root_.id rfl
theorem xrr (x : redirect_tree) : ldOne (xo x) 4 = some ((sll 13 xe) x.stack.upper.nodes) := _root_.id rfl
theorem x4p (x : redirect_tree) : ldOne (xo x) 6 = some ((sll 3 encWay) x.ways) := _root_.id rfl
theorem x7q (x : redirect_tree) : ldOne (xo x) 7 = some ((sll 2 xac) x.views) := _root_.id rfl
structure Ar2_Int where
  c0 : Int
  c1 : Int
  deriving Inhabited, DecidableEq
def xw (x : Ar2_Int) : AV := .agg [int x.c0, int x.c1]
theorem xo4 (x : Ar2_Int) : xi (xw x) 2 = true := _root_.id rfl
theorem xn6 (x : Ar2_Int) : closed (xw x) = true := by simp [xw, closed, closeds, cM_int, xxd, cM_str, cM_u8, cM_ik, cM_D, cM_LI, cM_LS, xbb, xab, xt, xr, cM_Geo, c_Geo, x8d, x5e, x2e, xbf, xmi, c_Attr, xah, c_Node, xsg, xyg, xek, xej, xji, xoh, xvl, xjl, cM_Way, c_Way, xqv, c_View, x1t, x4j]
theorem xr4 (l : List Ar2_Int) : closeds (l.map xw) = true := xcb xw xn6 l
structure unicode_utf8_acceptRange where
  lo : Int
  hi : Int
  deriving Inhabited, DecidableEq
end Go.Proofs.YtmacnoajlofdbaaDoor.AL

