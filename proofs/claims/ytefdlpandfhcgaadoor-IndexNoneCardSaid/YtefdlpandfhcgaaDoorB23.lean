/- A law of the given program is proved: part 23 of 51. -/
import Derived.Test.YtefdlpandfhcgaaDoorB22
set_option linter.all false
/- The program's data as Lean structures, as abstract values, and the rules of these; printed by gdata.py. -/
set_option linter.all false
namespace Go.Proofs.YtefdlpandfhcgaaDoor.AL
abbrev xeb : ByteArray := ⟨#[]⟩
abbrev ik (k : IntKind) (n : Int) : AV := .val (.int k n)
abbrev sll {α : Type} (s : Nat) (f : α → AV) (l : List α) : AV := .sl s (l.map f)
abbrev encD (d : List UInt8) : AV := .sl 1 (d.map u8)
theorem cM_int (l : List Int) : closeds (l.map int) = true := xt int (fun _ => _root_.id rfl) l
theorem xgc (l : List Bool) : closeds (l.map bool) = true := xt bool (fun _ => _root_.id rfl) l
theorem cM_str (l : List ByteArray) : closeds (l.map str) = true := xt str (fun _ => _root_.id rfl) l
theorem cM_u8 (l : List UInt8) : closeds (l.map u8) = true := xt u8 (fun _ => _root_.id rfl) l
theorem cM_ik (k : IntKind) (l : List Int) : closeds (l.map (ik k)) = true := xt (ik k) (fun _ => _root_.id rfl) l
theorem c_D (l : List UInt8) : closed (encD l) = true := cM_u8 l
theorem cM_D (l : List (List UInt8)) : closeds (l.map encD) = true := xt encD c_D l
theorem cM_LI (l : List (List Int)) : closeds (l.map (sll 1 int)) = true := xt (sll 1 int) (fun x => by simp only [closed]; exact cM_int x) l
theorem cM_LS (l : List (List ByteArray)) : closeds (l.map (sll 1 str)) = true := xt (sll 1 str) (fun x => by simp only [closed]; exact cM_str x) l
structure runtime_boundsError where
  x : Int
  y : Int
  signed : Bool
  code : Int
  deriving Inhabited, DecidableEq
def xed (x : runtime_boundsError) : AV := .agg [int x.x, int x.y, bool x.signed, (ik .u8) x.code]
theorem xl (x : runtime_boundsError) : closed (xed x) = true := by simp [xed, closed, closeds, cM_int, xgc, cM_str, cM_u8, cM_ik, cM_D, cM_LI, cM_LS]
theorem xm (l : List runtime_boundsError) : closeds (l.map xed) = true := xt xed xl l
structure runtime_errorAddressString where
  msg : ByteArray
  addr : Int
  deriving Inhabited, DecidableEq
def xbc (x : runtime_errorAddressString) : AV := .agg [str x.msg, (ik .u64) x.addr]
theorem xh (x : runtime_errorAddressString) : closed (xbc x) = true := by simp [xbc, closed, closeds, cM_int, xgc, cM_str, cM_u8, cM_ik, cM_D, cM_LI, cM_LS, xm, xl]
theorem xj (l : List runtime_errorAddressString) : closeds (l.map xbc) = true := xt xbc xh l
structure Origin where
  layer : Int
  ino : Int
  gen : Int
  deriving Inhabited, DecidableEq
def xo (x : Origin) : AV := .agg [int x.layer, int x.ino, int x.gen]
theorem xsz (x : Origin) : xi (xo x) 3 = true := _root_.id rfl
theorem xec (x : Origin) : closed (xo x) = true := by simp [xo, closed, closeds, cM_int, xgc, cM_str, cM_u8, cM_ik, cM_D, cM_LI, cM_LS, xm, xl, xj, xh]
theorem xdc (l : List Origin) : closeds (l.map xo) = true := xt xo xec l
theorem xly (x : Origin) : ldAgg (xo x) 0 3 = some (xo x) := _root_.id rfl
theorem xnz (x y : Origin) : stAV (xo x) 0 (xo y) = some (xo y) := _root_.id rfl
theorem xl0 (c0 c1 c2 : AV) (x : Origin) : stAV (.agg [c0, c1, c2]) 0 (xo x) = some (xo x) := _root_.id rfl
theorem xdv (x : Origin) : ldOne (xo x) 0 = some (int x.layer) := _root_.id rfl
theorem x5u (x : Origin) : ldOne (xo x) 1 = some (int x.ino) := _root_.id rfl
theorem xmv (x : Origin) : ldOne (xo x) 2 = some (int x.gen) := _root_.id rfl
structure Geo where
  lowers : Int
  inodes : Int
  blocks : Int
  log : Int
  deriving Inhabited, DecidableEq
def encGeo (x : Geo) : AV := .agg [int x.lowers, int x.inodes, int x.blocks, int x.log]
theorem c_Geo (x : Geo) : closed (encGeo x) = true := by simp [encGeo, closed, closeds, cM_int, xgc, cM_str, cM_u8, cM_ik, cM_D, cM_LI, cM_LS, xm, xl, xj, xh, xdc, xec]
theorem cM_Geo (l : List Geo) : closeds (l.map encGeo) = true := xt encGeo c_Geo l
structure Entry where
  slot : Int
  ino : Int
  name : ByteArray
  deriving Inhabited, DecidableEq
def xk (x : Entry) : AV := .agg [int x.slot, int x.ino, str x.name]
theorem xn1 (x : Entry) : xi (xk x) 3 = true := _root_.id rfl
theorem xad (x : Entry) : closed (xk x) = true := by simp [xk, closed, closeds, cM_int, xgc, cM_str, cM_u8, cM_ik, cM_D, cM_LI, cM_LS, xm, xl, xj, xh, xdc, xec, cM_Geo, c_Geo]
theorem xpc (l : List Entry) : closeds (l.map xk) = true := xt xk xad l
theorem x60 (x : Entry) : ldAgg (xk x) 0 3 = some (xk x) := _root_.id rfl
theorem x52 (c0 c1 c2 : AV) (x : Entry) : stAV (.agg [c0, c1, c2]) 0 (xk x) = some (xk x) := _root_.id rfl
theorem xtx (x : Entry) : ldOne (xk x) 0 = some (int x.slot) := _root_.id rfl
theorem x1x (x : Entry) : ldOne (xk x) 1 = some (int x.ino) := _root_.id rfl
theorem xux (x : Entry) : ldOne (xk x) 2 = some (str x.name) := _root_.id rfl
structure Attr where
  has : Int
  opaque0 : Int
  redirect : ByteArray
  origin : Origin
  shown : Int
  deriving Inhabited, DecidableEq
def x0i (x : Attr) : AV := .agg [int x.has, int x.opaque0, str x.redirect, int x.origin.layer, int x.origin.ino, int x.origin.gen, int x.shown]
theorem c_Attr (x : Attr) : closed (x0i x) = true := by simp [x0i, closed, closeds, cM_int, xgc, cM_str, cM_u8, cM_ik, cM_D, cM_LI, cM_LS, xm, xl, xj, xh, xdc, xec, cM_Geo, c_Geo, xpc, xad]
theorem x5d (l : List Attr) : closeds (l.map x0i) = true := xt x0i c_Attr l
structure Node where
  kind : Int
  impure : Int
  nlink : Int
  gen : Int
  data : List UInt8
  entries : List Entry
  attr : Attr
  deriving Inhabited, DecidableEq
def xd (x : Node) : AV := .agg [int x.kind, int x.impure, int x.nlink, int x.gen, encD x.data, (sll 3 xk) x.entries, int x.attr.has, int x.attr.opaque0, str x.attr.redirect, int x.attr.origin.layer, int x.attr.origin.ino, int x.attr.origin.gen, int x.attr.shown]
theorem xx3 (x : Node) : xi (xd x) 13 = true := _root_.id rfl
theorem c_Node (x : Node) : closed (xd x) = true := by simp [xd, closed, closeds, cM_int, xgc, cM_str, cM_u8, cM_ik, cM_D, cM_LI, cM_LS, xm, xl, xj, xh, xdc, xec, cM_Geo, c_Geo, xpc, xad, x5d, c_Attr]
theorem xzd (l : List Node) : closeds (l.map xd) = true := xt xd c_Node l
theorem xu4 (x : Node) : ldAgg (xd x) 0 13 = some (xd x) := _root_.id rfl
theorem x23 (c0 c1 c2 c3 c4 c5 c6 c7 c8 c9 c10 c11 c12 : AV) (x : Node) : stAV (.agg [c0, c1, c2, c3, c4, c5, c6, c7, c8, c9, c10, c11, c12]) 0 (xd x) = some (xd x) := _root_.id rfl
theorem xpy (x : Node) : ldOne (xd x) 0 = some (int x.kind) := _root_.id rfl
theorem xc0 (x : Node) : partO 0 (xd x) = some (int x.kind) := _root_.id rfl
theorem x9z (x : Node) : ldOne (xd x) 1 = some (int x.impure) := _root_.id rfl
theorem x3z (x : Node) : ldOne (xd x) 2 = some (int x.nlink) := _root_.id rfl
theorem xjy (x : Node) : ldOne (xd x) 3 = some (int x.gen) := _root_.id rfl
theorem xh0 (x : Node) : ldOne (xd x) 4 = some (encD x.data) := _root_.id rfl
theorem xtz (x : Node) : ldOne (xd x) 5 = some ((sll 3 xk) x.entries) := _root_.id rfl
theorem xmy (x : Node) : stAV (xd x) 5 (.val (.slice none 0 0)) = some (.agg [int x.kind, int x.impure, int x.nlink, int x.gen, encD x.data, .val (.slice none 0 0), int x.attr.has, int x.attr.opaque0, str x.attr.redirect, int x.attr.origin.layer, int x.attr.origin.ino, int x.attr.origin.gen, int x.attr.shown]) := _root_.id rfl
theorem xsy (x : Node) : partO 5 (xd x) = some ((sll 3 xk) x.entries) := _root_.id rfl
theorem x9u (x : Node) : ldAgg (xd x) 6 7 = some (x0i x.attr) := _root_.id rfl
theorem xny (x : Node) : ldOne (xd x) 6 = some (int x.attr.has) := _root_.id rfl
theorem xuy (x : Node) : ldOne (xd x) 8 = some (str x.attr.redirect) := _root_.id rfl
theorem xbv (x : Node) : ldAgg (xd x) 9 3 = some (xo x.attr.origin) := _root_.id rfl
structure Branch where
  nodes : List Node
  deriving Inhabited, DecidableEq
def xx (x : Branch) : AV := .agg [(sll 13 xd) x.nodes]
theorem xgz (x : Branch) : xi (xx x) 1 = true := _root_.id rfl
theorem xqd (x : Branch) : closed (xx x) = true := by simp [xx, closed, closeds, cM_int, xgc, cM_str, cM_u8, cM_ik, cM_D, cM_LI, cM_LS, xm, xl, xj, xh, xdc, xec, cM_Geo, c_Geo, xpc, xad, x5d, c_Attr, xzd, c_Node]
theorem xgd (l : List Branch) : closeds (l.map xx) = true := xt xx xqd l
theorem x9x (x : Branch) : ldAgg (xx x) 0 1 = some (xx x) := _root_.id rfl
theorem xsw (x : Branch) : ldOne (xx x) 0 = some ((sll 13 xd) x.nodes) := _root_.id rfl
theorem xa0 (x : Branch) : AV.cells (xx x) = [(sll 13 xd) x.nodes] := _root_.id rfl
structure Stack where
  geo : Geo
  upper : Branch
  lowers : List Branch
  deriving Inhabited, DecidableEq
def xob (x : Stack) : AV := .agg [int x.geo.lowers, int x.geo.inodes, int x.geo.blocks, int x.geo.log, (sll 13 xd) x.upper.nodes, (sll 1 xx) x.lowers]
theorem xf1 (x : Stack) : xi (xob x) 6 = true := _root_.id rfl
theorem xje (x : Stack) : closed (xob x) = true := by simp [xob, closed, closeds, cM_int, xgc, cM_str, cM_u8, cM_ik, cM_D, cM_LI, cM_LS, xm, xl, xj, xh, xdc, xec, cM_Geo, c_Geo, xpc, xad, x5d, c_Attr, xzd, c_Node, xgd, xqd]
theorem x8e (l : List Stack) : closeds (l.map xob) = true := xt xob xje l
theorem x71 (x : Stack) : ldAgg (xob x) 0 6 = some (xob x) := _root_.id rfl
theorem xru (x : Stack) : ldAgg (xob x) 4 1 = some (xx x.upper) := _root_.id rfl
theorem xcx (x : Stack) : ldOne (xob x) 4 = some ((sll 13 xd) x.upper.nodes) := _root_.id rfl
theorem xrx (x : Stack) (l n : Nat) : stAV (xob x) 4 (.msl l n) = some (.agg [int x.geo.lowers, int x.geo.inodes, int x.geo.blocks, int x.geo.log, .msl l n, (sll 1 xx) x.lowers]) := _root_.id rfl
theorem xvw (x : Stack) : ldOne (xob x) 5 = some ((sll 1 xx) x.lowers) := _root_.id rfl
structure Ar4_Int where
  c0 : Int
  c1 : Int
  c2 : Int
  c3 : Int
  deriving Inhabited, DecidableEq
def xsb (x : Ar4_Int) : AV := .agg [int x.c0, int x.c1, int x.c2, int x.c3]
theorem xjx (x : Ar4_Int) : xi (xsb x) 4 = true := _root_.id rfl
theorem xae (x : Ar4_Int) : closed (xsb x) = true := by simp [xsb, closed, closeds, cM_int, xgc, cM_str, cM_u8, cM_ik, cM_D, cM_LI, cM_LS, xm, xl, xj, xh, xdc, xec, cM_Geo, c_Geo, xpc, xad, x5d, c_Attr, xzd, c_Node, xgd, xqd, x8e, xje]
theorem x9d (l : List Ar4_Int) : closeds (l.map xsb) = true := xt xsb xae l
theorem xew (c0 c1 c2 c3 : AV) (x : Ar4_Int) : stAV (.agg [c0, c1, c2, c3]) 0 (xsb x) = some (xsb x) := _root_.id rfl
theorem xxw (x : Ar4_Int) : AV.cells (xsb x) = [int x.c0, int x.c1, int x.c2, int x.c3] := _root_.id rfl
theorem xwu (x : Ar4_Int) : ldOne (xsb x) 0 = some (int x.c0) := _root_.id rfl
theorem x3s (x : Ar4_Int) : ldOne (xsb x) 1 = some (int x.c1) := _root_.id rfl
theorem xqu (x : Ar4_Int) : ldOne (xsb x) 2 = some (int x.c2) := _root_.id rfl
theorem xys (x : Ar4_Int) : ldOne (xsb x) 3 = some (int x.c3) := _root_.id rfl
structure Ar3_Ar4_Int where
  c0 : Ar4_Int
  c1 : Ar4_Int
  c2 : Ar4_Int
  deriving Inhabited, DecidableEq
def xf (x : Ar3_Ar4_Int) : AV := .agg [int x.c0.c0, int x.c0.c1, int x.c0.c2, int x.c0.c3, int x.c1.c0, int x.c1.c1, int x.c1.c2, int x.c1.c3, int x.c2.c0, int x.c2.c1, int x.c2.c2, int x.c2.c3]
theorem xhq (x : Ar3_Ar4_Int) : xi (xf x) 12 = true := _root_.id rfl
theorem x2c (x : Ar3_Ar4_Int) : closed (xf x) = true := by simp [xf, closed, closeds, cM_int, xgc, cM_str, cM_u8, cM_ik, cM_D, cM_LI, cM_LS, xm, xl, xj, xh, xdc, xec, cM_Geo, c_Geo, xpc, xad, x5d, c_Attr, xzd, c_Node, xgd, xqd, x8e, xje, x9d, xae]
theorem x6c (l : List Ar3_Ar4_Int) : closeds (l.map xf) = true := xt xf x2c l
theorem xzq (x : Ar3_Ar4_Int) : ldAgg (xf x) 0 12 = some (xf x) := _root_.id rfl
theorem xdq (c0 c1 c2 c3 c4 c5 c6 c7 c8 c9 c10 c11 : AV) (x : Ar3_Ar4_Int) : stAV (.agg [c0, c1, c2, c3, c4, c5, c6, c7, c8, c9, c10, c11]) 0 (xf x) = some (xf x) := _root_.id rfl
structure Ar3_Int where
  c0 : Int
  c1 : Int
  c2 : Int
  deriving Inhabited, DecidableEq
def x4b (x : Ar3_Int) : AV := .agg [int x.c0, int x.c1, int x.c2]
theorem x7f (x : Ar3_Int) : closed (x4b x) = true := by simp [x4b, closed, closeds, cM_int, xgc, cM_str, cM_u8, cM_ik, cM_D, cM_LI, cM_LS, xm, xl, xj, xh, xdc, xec, cM_Geo, c_Geo, xpc, xad, x5d, c_Attr, xzd, c_Node, xgd, xqd, x8e, xje, x9d, xae, x6c, x2c]
theorem xfg (l : List Ar3_Int) : closeds (l.map x4b) = true := xt x4b x7f l
theorem xdt (x : Ar3_Int) : ldOne (x4b x) 0 = some (int x.c0) := _root_.id rfl
theorem xou (x : Ar3_Int) (v : Int) : stAV (x4b x) 0 (int v) = some (x4b { x with c0 := v }) := _root_.id rfl
theorem xyt (x : Ar3_Int) : ldOne (x4b x) 1 = some (int x.c1) := _root_.id rfl
theorem x6s (x : Ar3_Int) (v : Int) : stAV (x4b x) 1 (int v) = some (x4b { x with c1 := v }) := _root_.id rfl
theorem xst (x : Ar3_Int) : ldOne (x4b x) 2 = some (int x.c2) := _root_.id rfl
theorem x5s (x : Ar3_Int) (v : Int) : stAV (x4b x) 2 (int v) = some (x4b { x with c2 := v }) := _root_.id rfl
structure Place where
  layer : Int
  ino : Int
  deriving Inhabited, DecidableEq
def xtk (x : Place) : AV := .agg [int x.layer, int x.ino]
theorem xyh (x : Place) : closed (xtk x) = true := by simp [xtk, closed, closeds, cM_int, xgc, cM_str, cM_u8, cM_ik, cM_D, cM_LI, cM_LS, xm, xl, xj, xh, xdc, xec, cM_Geo, c_Geo, xpc, xad, x5d, c_Attr, xzd, c_Node, xgd, xqd, x8e, xje, x9d, xae, x6c, x2c, xfg, x7f]
theorem xjj (l : List Place) : closeds (l.map xtk) = true := xt xtk xyh l
structure Finding where
  clause : Int
  layer : Int
  ino : Int
  slot : Int
  deriving Inhabited, DecidableEq
def x9b (x : Finding) : AV := .agg [int x.clause, int x.layer, int x.ino, int x.slot]
theorem x1w (x : Finding) : xi (x9b x) 4 = true := _root_.id rfl
theorem xai (x : Finding) : closed (x9b x) = true := by simp [x9b, closed, closeds, cM_int, xgc, cM_str, cM_u8, cM_ik, cM_D, cM_LI, cM_LS, xm, xl, xj, xh, xdc, xec, cM_Geo, c_Geo, xpc, xad, x5d, c_Attr, xzd, c_Node, xgd, xqd, x8e, xje, x9d, xae, x6c, x2c, xfg, x7f, xjj, xyh]
theorem xjh (l : List Finding) : closeds (l.map x9b) = true := xt x9b xai l
theorem xvx (x : Finding) : ldAgg (x9b x) 0 4 = some (x9b x) := _root_.id rfl
structure index_upper where
  stack : Stack
  tree : List Bool
  deriving Inhabited, DecidableEq
def xbb (x : index_upper) : AV := .agg [int x.stack.geo.lowers, int x.stack.geo.inodes, int x.stack.geo.blocks, int x.stack.geo.log, (sll 13 xd) x.stack.upper.nodes, (sll 1 xx) x.stack.lowers, (sll 1 bool) x.tree]
theorem xxq (x : index_upper) : xi (xbb x) 7 = true := _root_.id rfl
theorem xgf (x : index_upper) : closed (xbb x) = true := by simp [xbb, closed, closeds, cM_int, xgc, cM_str, cM_u8, cM_ik, cM_D, cM_LI, cM_LS, xm, xl, xj, xh, xdc, xec, cM_Geo, c_Geo, xpc, xad, x5d, c_Attr, xzd, c_Node, xgd, xqd, x8e, xje, x9d, xae, x6c, x2c, xfg, x7f, xjj, xyh, xjh, xai]
theorem x1h (l : List index_upper) : closeds (l.map xbb) = true := xt xbb xgf l
theorem x0q (x : index_upper) : ldAgg (xbb x) 0 7 = some (xbb x) := _root_.id rfl
theorem xuq (c0 c1 c2 c3 c4 c5 c6 : AV) (x : index_upper) : stAV (.agg [c0, c1, c2, c3, c4, c5, c6]) 0 (xbb x) = some (xbb x) := _root_.id rfl
theorem xqm (x : index_upper) : ldAgg (xbb x) 0 6 = some (xob x.stack) := _root_.id rfl
theorem x6o (x : index_upper) : ldOne (xbb x) 4 = some ((sll 13 xd) x.stack.upper.nodes) := _root_.id rfl
theorem x7o (x : index_upper) : ldOne (xbb x) 6 = some ((sll 1 bool) x.tree) := _root_.id rfl
structure Way where
  ino : Int
  up : Int
  name : ByteArray
  deriving Inhabited, DecidableEq
def encWay (x : Way) : AV := .agg [int x.ino, int x.up, str x.name]
theorem hs_Way (x : Way) : xi (encWay x) 3 = true := _root_.id rfl
theorem c_Way (x : Way) : closed (encWay x) = true := by simp [encWay, closed, closeds, cM_int, xgc, cM_str, cM_u8, cM_ik, cM_D, cM_LI, cM_LS, xm, xl, xj, xh, xdc, xec, cM_Geo, c_Geo, xpc, xad, x5d, c_Attr, xzd, c_Node, xgd, xqd, x8e, xje, x9d, xae, x6c, x2c, xfg, x7f, xjj, xyh, xjh, xai, x1h, xgf]
theorem cM_Way (l : List Way) : closeds (l.map encWay) = true := xt encWay c_Way l
theorem la_Way (x : Way) : ldAgg (encWay x) 0 3 = some (encWay x) := _root_.id rfl
theorem sz_Way (c0 c1 c2 : AV) (x : Way) : stAV (.agg [c0, c1, c2]) 0 (encWay x) = some (encWay x) := _root_.id rfl
theorem xa1 (x : Way) : ldOne (encWay x) 0 = some (int x.ino) := _root_.id rfl
structure errors_errorString where
  s : ByteArray
  deriving Inhabited, DecidableEq
def xmd (x : errors_errorString) : AV := .agg [str x.s]
theorem xdh (x : errors_errorString) : closed (xmd x) = true := by simp [xmd, closed, closeds, cM_int, xgc, cM_str, cM_u8, cM_ik, cM_D, cM_LI, cM_LS, xm, xl, xj, xh, xdc, xec, cM_Geo, c_Geo, xpc, xad, x5d, c_Attr, xzd, c_Node, xgd, xqd, x8e, xje, x9d, xae, x6c, x2c, xfg, x7f, xjj, xyh, xjh, xai, x1h, xgf, cM_Way, c_Way]
theorem xbk (l : List errors_errorString) : closeds (l.map xmd) = true := xt xmd xdh l
structure Ar2_Int where
  c0 : Int
  c1 : Int
  deriving Inhabited, DecidableEq
def xzb (x : Ar2_Int) : AV := .agg [int x.c0, int x.c1]
theorem xtw (x : Ar2_Int) : xi (xzb x) 2 = true := _root_.id rfl
theorem xoz (x : Ar2_Int) : closed (xzb x) = true := by simp [xzb, closed, closeds, cM_int, xgc, cM_str, cM_u8, cM_ik, cM_D, cM_LI, cM_LS, xm, xl, xj, xh, xdc, xec, cM_Geo, c_Geo, xpc, xad, x5d, c_Attr, xzd, c_Node, xgd, xqd, x8e, xje, x9d, xae, x6c, x2c, xfg, x7f, xjj, xyh, xjh, xai, x1h, xgf, cM_Way, c_Way, xbk, xdh]
theorem x6x (l : List Ar2_Int) : closeds (l.map xzb) = true := xt xzb xoz l
end Go.Proofs.YtefdlpandfhcgaaDoor.AL

