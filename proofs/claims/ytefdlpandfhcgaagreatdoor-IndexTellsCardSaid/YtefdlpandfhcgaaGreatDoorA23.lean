/- A law of the given program is proved: part 23 of 50. -/
import Derived.Test.YtefdlpandfhcgaaGreatDoorA22
set_option linter.all false
/- The program's data as Lean structures, as abstract values, and the rules of these; printed by gdata.py. -/
set_option linter.all false
namespace Go.Proofs.YtefdlpandfhcgaaGreatDoor.AL
abbrev xq : ByteArray := ⟨#[]⟩
abbrev ik (k : IntKind) (n : Int) : AV := .val (.int k n)
abbrev sll {α : Type} (s : Nat) (f : α → AV) (l : List α) : AV := .sl s (l.map f)
abbrev encD (d : List UInt8) : AV := .sl 1 (d.map u8)
theorem cM_int (l : List Int) : closeds (l.map int) = true := xeb int (fun _ => _root_.id rfl) l
theorem xvc (l : List Bool) : closeds (l.map bool) = true := xeb bool (fun _ => _root_.id rfl) l
theorem cM_str (l : List ByteArray) : closeds (l.map str) = true := xeb str (fun _ => _root_.id rfl) l
theorem cM_u8 (l : List UInt8) : closeds (l.map u8) = true := xeb u8 (fun _ => _root_.id rfl) l
theorem cM_ik (k : IntKind) (l : List Int) : closeds (l.map (ik k)) = true := xeb (ik k) (fun _ => _root_.id rfl) l
theorem c_D (l : List UInt8) : closed (encD l) = true := cM_u8 l
theorem cM_D (l : List (List UInt8)) : closeds (l.map encD) = true := xeb encD c_D l
theorem cM_LI (l : List (List Int)) : closeds (l.map (sll 1 int)) = true := xeb (sll 1 int) (fun x => by simp only [closed]; exact cM_int x) l
theorem cM_LS (l : List (List ByteArray)) : closeds (l.map (sll 1 str)) = true := xeb (sll 1 str) (fun x => by simp only [closed]; exact cM_str x) l
structure runtime_boundsError where
  x : Int
  y : Int
  signed : Bool
  code : Int
  deriving Inhabited, DecidableEq
def xyd (x : runtime_boundsError) : AV := .agg [int x.x, int x.y, bool x.signed, (ik .u8) x.code]
theorem xt (x : runtime_boundsError) : closed (xyd x) = true := by simp [xyd, closed, closeds, cM_int, xvc, cM_str, cM_u8, cM_ik, cM_D, cM_LI, cM_LS]
theorem xu (l : List runtime_boundsError) : closeds (l.map xyd) = true := xeb xyd xt l
structure runtime_errorAddressString where
  msg : ByteArray
  addr : Int
  deriving Inhabited, DecidableEq
def xnc (x : runtime_errorAddressString) : AV := .agg [str x.msg, (ik .u64) x.addr]
theorem xk (x : runtime_errorAddressString) : closed (xnc x) = true := by simp [xnc, closed, closeds, cM_int, xvc, cM_str, cM_u8, cM_ik, cM_D, cM_LI, cM_LS, xu, xt]
theorem xl (l : List runtime_errorAddressString) : closeds (l.map xnc) = true := xeb xnc xk l
structure Geo where
  lowers : Int
  inodes : Int
  blocks : Int
  log : Int
  deriving Inhabited, DecidableEq
def encGeo (x : Geo) : AV := .agg [int x.lowers, int x.inodes, int x.blocks, int x.log]
theorem c_Geo (x : Geo) : closed (encGeo x) = true := by simp [encGeo, closed, closeds, cM_int, xvc, cM_str, cM_u8, cM_ik, cM_D, cM_LI, cM_LS, xu, xt, xl, xk]
theorem cM_Geo (l : List Geo) : closeds (l.map encGeo) = true := xeb encGeo c_Geo l
structure Entry where
  slot : Int
  ino : Int
  name : ByteArray
  deriving Inhabited, DecidableEq
def xd (x : Entry) : AV := .agg [int x.slot, int x.ino, str x.name]
theorem xt6 (x : Entry) : xi (xd x) 3 = true := _root_.id rfl
theorem xsd (x : Entry) : closed (xd x) = true := by simp [xd, closed, closeds, cM_int, xvc, cM_str, cM_u8, cM_ik, cM_D, cM_LI, cM_LS, xu, xt, xl, xk, cM_Geo, c_Geo]
theorem x1c (l : List Entry) : closeds (l.map xd) = true := xeb xd xsd l
theorem xu4 (x : Entry) : ldAgg (xd x) 0 3 = some (xd x) := _root_.id rfl
theorem xa7 (c0 c1 c2 : AV) (x : Entry) : stAV (.agg [c0, c1, c2]) 0 (xd x) = some (xd x) := _root_.id rfl
theorem xh0 (x : Entry) : ldOne (xd x) 0 = some (int x.slot) := _root_.id rfl
theorem x40 (x : Entry) : ldOne (xd x) 1 = some (int x.ino) := _root_.id rfl
theorem x90 (x : Entry) : ldOne (xd x) 2 = some (str x.name) := _root_.id rfl
structure Origin where
  layer : Int
  ino : Int
  gen : Int
  deriving Inhabited, DecidableEq
def xm (x : Origin) : AV := .agg [int x.layer, int x.ino, int x.gen]
theorem xy3 (x : Origin) : xi (xm x) 3 = true := _root_.id rfl
theorem x4c (x : Origin) : closed (xm x) = true := by simp [xm, closed, closeds, cM_int, xvc, cM_str, cM_u8, cM_ik, cM_D, cM_LI, cM_LS, xu, xt, xl, xk, cM_Geo, c_Geo, x1c, xsd]
theorem xgd (l : List Origin) : closeds (l.map xm) = true := xeb xm x4c l
theorem x52 (x : Origin) : ldAgg (xm x) 0 3 = some (xm x) := _root_.id rfl
theorem xg3 (x y : Origin) : stAV (xm x) 0 (xm y) = some (xm y) := _root_.id rfl
theorem x72 (c0 c1 c2 : AV) (x : Origin) : stAV (.agg [c0, c1, c2]) 0 (xm x) = some (xm x) := _root_.id rfl
theorem xpy (x : Origin) : ldOne (xm x) 0 = some (int x.layer) := _root_.id rfl
theorem xry (x : Origin) : ldOne (xm x) 1 = some (int x.ino) := _root_.id rfl
theorem xey (x : Origin) : ldOne (xm x) 2 = some (int x.gen) := _root_.id rfl
structure Attr where
  has : Int
  opaque0 : Int
  redirect : ByteArray
  origin : Origin
  shown : Int
  deriving Inhabited, DecidableEq
def xlh (x : Attr) : AV := .agg [int x.has, int x.opaque0, str x.redirect, int x.origin.layer, int x.origin.ino, int x.origin.gen, int x.shown]
theorem xw7 (x : Attr) : xi (xlh x) 7 = true := _root_.id rfl
theorem c_Attr (x : Attr) : closed (xlh x) = true := by simp [xlh, closed, closeds, cM_int, xvc, cM_str, cM_u8, cM_ik, cM_D, cM_LI, cM_LS, xu, xt, xl, xk, cM_Geo, c_Geo, x1c, xsd, xgd, x4c]
theorem xhf (l : List Attr) : closeds (l.map xlh) = true := xeb xlh c_Attr l
theorem xr1 (x : Attr) : ldOne (xlh x) 0 = some (int x.has) := _root_.id rfl
structure Node where
  kind : Int
  impure : Int
  nlink : Int
  gen : Int
  data : List UInt8
  entries : List Entry
  attr : Attr
  deriving Inhabited, DecidableEq
def xj (x : Node) : AV := .agg [int x.kind, int x.impure, int x.nlink, int x.gen, encD x.data, (sll 3 xd) x.entries, int x.attr.has, int x.attr.opaque0, str x.attr.redirect, int x.attr.origin.layer, int x.attr.origin.ino, int x.attr.origin.gen, int x.attr.shown]
theorem xdab (x : Node) : xi (xj x) 13 = true := _root_.id rfl
theorem c_Node (x : Node) : closed (xj x) = true := by simp [xj, closed, closeds, cM_int, xvc, cM_str, cM_u8, cM_ik, cM_D, cM_LI, cM_LS, xu, xt, xl, xk, cM_Geo, c_Geo, x1c, xsd, xgd, x4c, xhf, c_Attr]
theorem xze (l : List Node) : closeds (l.map xj) = true := xeb xj c_Node l
theorem xt7 (x : Node) : ldAgg (xj x) 0 13 = some (xj x) := _root_.id rfl
theorem xsab (c0 c1 c2 c3 c4 c5 c6 c7 c8 c9 c10 c11 c12 : AV) (x : Node) : stAV (.agg [c0, c1, c2, c3, c4, c5, c6, c7, c8, c9, c10, c11, c12]) 0 (xj x) = some (xj x) := _root_.id rfl
theorem xp3 (x : Node) : ldOne (xj x) 0 = some (int x.kind) := _root_.id rfl
theorem xw3 (x : Node) : partO 0 (xj x) = some (int x.kind) := _root_.id rfl
theorem xi3 (x : Node) : ldOne (xj x) 2 = some (int x.nlink) := _root_.id rfl
theorem xk2 (x : Node) : ldOne (xj x) 3 = some (int x.gen) := _root_.id rfl
theorem x23 (x : Node) : ldOne (xj x) 4 = some (encD x.data) := _root_.id rfl
theorem xx3 (x : Node) : ldOne (xj x) 5 = some ((sll 3 xd) x.entries) := _root_.id rfl
theorem xf2 (x : Node) : partO 5 (xj x) = some ((sll 3 xd) x.entries) := _root_.id rfl
theorem xfy (x : Node) : ldAgg (xj x) 6 7 = some (xlh x.attr) := _root_.id rfl
theorem xa3 (x : Node) : ldOne (xj x) 6 = some (int x.attr.has) := _root_.id rfl
theorem xn1 (x : Node) : ldOne (xj x) 8 = some (str x.attr.redirect) := _root_.id rfl
theorem x8x (x : Node) : ldAgg (xj x) 9 3 = some (xm x.attr.origin) := _root_.id rfl
structure Branch where
  nodes : List Node
  deriving Inhabited, DecidableEq
def xp (x : Branch) : AV := .agg [(sll 13 xj) x.nodes]
theorem xt2 (x : Branch) : xi (xp x) 1 = true := _root_.id rfl
theorem xpe (x : Branch) : closed (xp x) = true := by simp [xp, closed, closeds, cM_int, xvc, cM_str, cM_u8, cM_ik, cM_D, cM_LI, cM_LS, xu, xt, xl, xk, cM_Geo, c_Geo, x1c, xsd, xgd, x4c, xhf, c_Attr, xze, c_Node]
theorem xke (l : List Branch) : closeds (l.map xp) = true := xeb xp xpe l
theorem xo1 (x : Branch) : ldAgg (xp x) 0 1 = some (xp x) := _root_.id rfl
theorem xd1 (x : Branch) : ldOne (xp x) 0 = some ((sll 13 xj) x.nodes) := _root_.id rfl
theorem x71 (x : Branch) : AV.cells (xp x) = [(sll 13 xj) x.nodes] := _root_.id rfl
structure Stack where
  geo : Geo
  upper : Branch
  lowers : List Branch
  deriving Inhabited, DecidableEq
def xnb (x : Stack) : AV := .agg [int x.geo.lowers, int x.geo.inodes, int x.geo.blocks, int x.geo.log, (sll 13 xj) x.upper.nodes, (sll 1 xp) x.lowers]
theorem xr4 (x : Stack) : xi (xnb x) 6 = true := _root_.id rfl
theorem xng (x : Stack) : closed (xnb x) = true := by simp [xnb, closed, closeds, cM_int, xvc, cM_str, cM_u8, cM_ik, cM_D, cM_LI, cM_LS, xu, xt, xl, xk, cM_Geo, c_Geo, x1c, xsd, xgd, x4c, xhf, c_Attr, xze, c_Node, xke, xpe]
theorem x0g (l : List Stack) : closeds (l.map xnb) = true := xeb xnb xng l
theorem xe6 (x : Stack) : ldAgg (xnb x) 0 6 = some (xnb x) := _root_.id rfl
theorem x3w (x : Stack) : ldAgg (xnb x) 4 1 = some (xp x.upper) := _root_.id rfl
theorem xn0 (x : Stack) : ldOne (xnb x) 5 = some ((sll 1 xp) x.lowers) := _root_.id rfl
structure Finding where
  clause : Int
  layer : Int
  ino : Int
  slot : Int
  deriving Inhabited, DecidableEq
def xw (x : Finding) : AV := .agg [int x.clause, int x.layer, int x.ino, int x.slot]
theorem xmz (x : Finding) : xi (xw x) 4 = true := _root_.id rfl
theorem xwf (x : Finding) : closed (xw x) = true := by simp [xw, closed, closeds, cM_int, xvc, cM_str, cM_u8, cM_ik, cM_D, cM_LI, cM_LS, xu, xt, xl, xk, cM_Geo, c_Geo, x1c, xsd, xgd, x4c, xhf, c_Attr, xze, c_Node, xke, xpe, x0g, xng]
theorem x4e (l : List Finding) : closeds (l.map xw) = true := xeb xw xwf l
theorem xuz (x : Finding) : ldAgg (xw x) 0 4 = some (xw x) := _root_.id rfl
structure index_upper where
  stack : Stack
  tree : List Bool
  deriving Inhabited, DecidableEq
def xhb (x : index_upper) : AV := .agg [int x.stack.geo.lowers, int x.stack.geo.inodes, int x.stack.geo.blocks, int x.stack.geo.log, (sll 13 xj) x.stack.upper.nodes, (sll 1 xp) x.stack.lowers, (sll 1 bool) x.tree]
theorem xts (x : index_upper) : xi (xhb x) 7 = true := _root_.id rfl
theorem xld (x : index_upper) : closed (xhb x) = true := by simp [xhb, closed, closeds, cM_int, xvc, cM_str, cM_u8, cM_ik, cM_D, cM_LI, cM_LS, xu, xt, xl, xk, cM_Geo, c_Geo, x1c, xsd, xgd, x4c, xhf, c_Attr, xze, c_Node, xke, xpe, x0g, xng, x4e, xwf]
theorem xme (l : List index_upper) : closeds (l.map xhb) = true := xeb xhb xld l
theorem x0t (x : index_upper) : ldAgg (xhb x) 0 7 = some (xhb x) := _root_.id rfl
theorem xnt (c0 c1 c2 c3 c4 c5 c6 : AV) (x : index_upper) : stAV (.agg [c0, c1, c2, c3, c4, c5, c6]) 0 (xhb x) = some (xhb x) := _root_.id rfl
theorem xto (x : index_upper) : ldAgg (xhb x) 0 6 = some (xnb x.stack) := _root_.id rfl
theorem xhr (x : index_upper) : ldOne (xhb x) 4 = some ((sll 13 xj) x.stack.upper.nodes) := _root_.id rfl
theorem xbr (x : index_upper) : ldOne (xhb x) 6 = some ((sll 1 bool) x.tree) := _root_.id rfl
structure Place where
  layer : Int
  ino : Int
  deriving Inhabited, DecidableEq
def x9f (x : Place) : AV := .agg [int x.layer, int x.ino]
theorem xh5 (x : Place) : xi (x9f x) 2 = true := _root_.id rfl
theorem x2i (x : Place) : closed (x9f x) = true := by simp [x9f, closed, closeds, cM_int, xvc, cM_str, cM_u8, cM_ik, cM_D, cM_LI, cM_LS, xu, xt, xl, xk, cM_Geo, c_Geo, x1c, xsd, xgd, x4c, xhf, c_Attr, xze, c_Node, xke, xpe, x0g, xng, x4e, xwf, xme, xld]
theorem x6j (l : List Place) : closeds (l.map x9f) = true := xeb x9f x2i l
theorem xo0 (x : Place) : ldOne (x9f x) 0 = some (int x.layer) := _root_.id rfl
theorem xsz (x : Place) : ldOne (x9f x) 1 = some (int x.ino) := _root_.id rfl
structure Way where
  ino : Int
  up : Int
  name : ByteArray
  deriving Inhabited, DecidableEq
def encWay (x : Way) : AV := .agg [int x.ino, int x.up, str x.name]
theorem hs_Way (x : Way) : xi (encWay x) 3 = true := _root_.id rfl
theorem c_Way (x : Way) : closed (encWay x) = true := by simp [encWay, closed, closeds, cM_int, xvc, cM_str, cM_u8, cM_ik, cM_D, cM_LI, cM_LS, xu, xt, xl, xk, cM_Geo, c_Geo, x1c, xsd, xgd, x4c, xhf, c_Attr, xze, c_Node, xke, xpe, x0g, xng, x4e, xwf, xme, xld, x6j, x2i]
theorem cM_Way (l : List Way) : closeds (l.map encWay) = true := xeb encWay c_Way l
theorem la_Way (x : Way) : ldAgg (encWay x) 0 3 = some (encWay x) := _root_.id rfl
theorem sz_Way (c0 c1 c2 : AV) (x : Way) : stAV (.agg [c0, c1, c2]) 0 (encWay x) = some (encWay x) := _root_.id rfl
theorem xy4 (x : Way) : ldOne (encWay x) 0 = some (int x.ino) := _root_.id rfl
structure Ar3_Int where
  c0 : Int
  c1 : Int
  c2 : Int
  deriving Inhabited, DecidableEq
def xgc (x : Ar3_Int) : AV := .agg [int x.c0, int x.c1, int x.c2]
theorem xbl (x : Ar3_Int) : closed (xgc x) = true := by simp [xgc, closed, closeds, cM_int, xvc, cM_str, cM_u8, cM_ik, cM_D, cM_LI, cM_LS, xu, xt, xl, xk, cM_Geo, c_Geo, x1c, xsd, xgd, x4c, xhf, c_Attr, xze, c_Node, xke, xpe, x0g, xng, x4e, xwf, xme, xld, x6j, x2i, cM_Way, c_Way]
theorem xum (l : List Ar3_Int) : closeds (l.map xgc) = true := xeb xgc xbl l
theorem xqw (x : Ar3_Int) : ldOne (xgc x) 0 = some (int x.c0) := _root_.id rfl
theorem xkw (x : Ar3_Int) (v : Int) : stAV (xgc x) 0 (int v) = some (xgc { x with c0 := v }) := _root_.id rfl
theorem xhx (x : Ar3_Int) : ldOne (xgc x) 1 = some (int x.c1) := _root_.id rfl
theorem x0w (x : Ar3_Int) (v : Int) : stAV (xgc x) 1 (int v) = some (xgc { x with c1 := v }) := _root_.id rfl
theorem xuv (x : Ar3_Int) : ldOne (xgc x) 2 = some (int x.c2) := _root_.id rfl
theorem x1w (x : Ar3_Int) (v : Int) : stAV (xgc x) 2 (int v) = some (xgc { x with c2 := v }) := _root_.id rfl
structure Ar4_Int where
  c0 : Int
  c1 : Int
  c2 : Int
  c3 : Int
  deriving Inhabited, DecidableEq
def x2b (x : Ar4_Int) : AV := .agg [int x.c0, int x.c1, int x.c2, int x.c3]
theorem xjz (x : Ar4_Int) : xi (x2b x) 4 = true := _root_.id rfl
theorem x4n (x : Ar4_Int) : closed (x2b x) = true := by simp [x2b, closed, closeds, cM_int, xvc, cM_str, cM_u8, cM_ik, cM_D, cM_LI, cM_LS, xu, xt, xl, xk, cM_Geo, c_Geo, x1c, xsd, xgd, x4c, xhf, c_Attr, xze, c_Node, xke, xpe, x0g, xng, x4e, xwf, xme, xld, x6j, x2i, cM_Way, c_Way, xum, xbl]
theorem x3r (l : List Ar4_Int) : closeds (l.map x2b) = true := xeb x2b x4n l
theorem xe0 (c0 c1 c2 c3 : AV) (x : Ar4_Int) : stAV (.agg [c0, c1, c2, c3]) 0 (x2b x) = some (x2b x) := _root_.id rfl
theorem x9z (x : Ar4_Int) : AV.cells (x2b x) = [int x.c0, int x.c1, int x.c2, int x.c3] := _root_.id rfl
theorem xdx (x : Ar4_Int) : ldOne (x2b x) 0 = some (int x.c0) := _root_.id rfl
theorem x6v (x : Ar4_Int) : ldOne (x2b x) 1 = some (int x.c1) := _root_.id rfl
theorem x9w (x : Ar4_Int) : ldOne (x2b x) 2 = some (int x.c2) := _root_.id rfl
theorem x4w (x : Ar4_Int) : ldOne (x2b x) 3 = some (int x.c3) := _root_.id rfl
structure Ar3_Ar4_Int where
  c0 : Ar4_Int
  c1 : Ar4_Int
  c2 : Ar4_Int
  deriving Inhabited, DecidableEq
def xg (x : Ar3_Ar4_Int) : AV := .agg [int x.c0.c0, int x.c0.c1, int x.c0.c2, int x.c0.c3, int x.c1.c0, int x.c1.c1, int x.c1.c2, int x.c1.c3, int x.c2.c0, int x.c2.c1, int x.c2.c2, int x.c2.c3]
theorem xit (x : Ar3_Ar4_Int) : xi (xg x) 12 = true := _root_.id rfl
theorem xdn (x : Ar3_Ar4_Int) : closed (xg x) = true := by simp [xg, closed, closeds, cM_int, xvc, cM_str, cM_u8, cM_ik, cM_D, cM_LI, cM_LS, xu, xt, xl, xk, cM_Geo, c_Geo, x1c, xsd, xgd, x4c, xhf, c_Attr, xze, c_Node, xke, xpe, x0g, xng, x4e, xwf, xme, xld, x6j, x2i, cM_Way, c_Way, xum, xbl, x3r, x4n]
theorem xwt (l : List Ar3_Ar4_Int) : closeds (l.map xg) = true := xeb xg xdn l
theorem xys (x : Ar3_Ar4_Int) : ldAgg (xg x) 0 12 = some (xg x) := _root_.id rfl
theorem xet (c0 c1 c2 c3 c4 c5 c6 c7 c8 c9 c10 c11 : AV) (x : Ar3_Ar4_Int) : stAV (.agg [c0, c1, c2, c3, c4, c5, c6, c7, c8, c9, c10, c11]) 0 (xg x) = some (xg x) := _root_.id rfl
structure Ar2_Int where
  c0 : Int
  c1 : Int
  deriving Inhabited, DecidableEq
def xob (x : Ar2_Int) : AV := .agg [int x.c0, int x.c1]
theorem xvz (x : Ar2_Int) : xi (xob x) 2 = true := _root_.id rfl
theorem x02 (x : Ar2_Int) : closed (xob x) = true := by simp [xob, closed, closeds, cM_int, xvc, cM_str, cM_u8, cM_ik, cM_D, cM_LI, cM_LS, xu, xt, xl, xk, cM_Geo, c_Geo, x1c, xsd, xgd, x4c, xhf, c_Attr, xze, c_Node, xke, xpe, x0g, xng, x4e, xwf, xme, xld, x6j, x2i, cM_Way, c_Way, xum, xbl, x3r, x4n, xwt, xdn]
theorem xu0 (l : List Ar2_Int) : closeds (l.map xob) = true := xeb xob x02 l
structure errors_errorString where
  s : ByteArray
  deriving Inhabited, DecidableEq
end Go.Proofs.YtefdlpandfhcgaaGreatDoor.AL

