/- What of the attributes of any stack, and of any node, may not be, is what the document says: part 23 of 46. -/
import Derived.Test.YtlgikchfddhocaaB22
set_option linter.all false
/- The program's data as Lean structures, as abstract values, and the rules of these; printed by gdata.py. -/
set_option linter.all false
namespace Go.Proofs.Ytlgikchfddhocaa.AL
abbrev noBytes : ByteArray := ⟨#[]⟩
abbrev ik (k : IntKind) (n : Int) : AV := .val (.int k n)
abbrev sll {α : Type} (s : Nat) (f : α → AV) (l : List α) : AV := .sl s (l.map f)
abbrev encD (d : List UInt8) : AV := .sl 1 (d.map u8)
theorem cM_int (l : List Int) : closeds (l.map int) = true := closeds_map int (fun _ => _root_.id rfl) l
theorem cM_bool (l : List Bool) : closeds (l.map bool) = true := closeds_map bool (fun _ => _root_.id rfl) l
theorem cM_str (l : List ByteArray) : closeds (l.map str) = true := closeds_map str (fun _ => _root_.id rfl) l
theorem cM_u8 (l : List UInt8) : closeds (l.map u8) = true := closeds_map u8 (fun _ => _root_.id rfl) l
theorem cM_ik (k : IntKind) (l : List Int) : closeds (l.map (ik k)) = true := closeds_map (ik k) (fun _ => _root_.id rfl) l
theorem c_D (l : List UInt8) : closed (encD l) = true := cM_u8 l
theorem cM_D (l : List (List UInt8)) : closeds (l.map encD) = true := closeds_map encD c_D l
theorem cM_LI (l : List (List Int)) : closeds (l.map (sll 1 int)) = true := closeds_map (sll 1 int) (fun x => by simp only [closed]; exact cM_int x) l
theorem cM_LS (l : List (List ByteArray)) : closeds (l.map (sll 1 str)) = true := closeds_map (sll 1 str) (fun x => by simp only [closed]; exact cM_str x) l
structure runtime_boundsError where
  x : Int
  y : Int
  signed : Bool
  code : Int
  deriving Inhabited, DecidableEq
def encruntime_boundsError (x : runtime_boundsError) : AV := .agg [int x.x, int x.y, bool x.signed, (ik .u8) x.code]
theorem c_runtime_boundsError (x : runtime_boundsError) : closed (encruntime_boundsError x) = true := by simp [encruntime_boundsError, closed, closeds, cM_int, cM_bool, cM_str, cM_u8, cM_ik, cM_D, cM_LI, cM_LS]
theorem cM_runtime_boundsError (l : List runtime_boundsError) : closeds (l.map encruntime_boundsError) = true := closeds_map encruntime_boundsError c_runtime_boundsError l
structure runtime_errorAddressString where
  msg : ByteArray
  addr : Int
  deriving Inhabited, DecidableEq
def encruntime_errorAddressString (x : runtime_errorAddressString) : AV := .agg [str x.msg, (ik .u64) x.addr]
theorem c_runtime_errorAddressString (x : runtime_errorAddressString) : closed (encruntime_errorAddressString x) = true := by simp [encruntime_errorAddressString, closed, closeds, cM_int, cM_bool, cM_str, cM_u8, cM_ik, cM_D, cM_LI, cM_LS, cM_runtime_boundsError, c_runtime_boundsError]
theorem cM_runtime_errorAddressString (l : List runtime_errorAddressString) : closeds (l.map encruntime_errorAddressString) = true := closeds_map encruntime_errorAddressString c_runtime_errorAddressString l
structure Geo where
  lowers : Int
  inodes : Int
  blocks : Int
  log : Int
  deriving Inhabited, DecidableEq
def encGeo (x : Geo) : AV := .agg [int x.lowers, int x.inodes, int x.blocks, int x.log]
theorem c_Geo (x : Geo) : closed (encGeo x) = true := by simp [encGeo, closed, closeds, cM_int, cM_bool, cM_str, cM_u8, cM_ik, cM_D, cM_LI, cM_LS, cM_runtime_boundsError, c_runtime_boundsError, cM_runtime_errorAddressString, c_runtime_errorAddressString]
theorem cM_Geo (l : List Geo) : closeds (l.map encGeo) = true := closeds_map encGeo c_Geo l
structure Entry where
  slot : Int
  ino : Int
  name : ByteArray
  deriving Inhabited, DecidableEq
def encEntry (x : Entry) : AV := .agg [int x.slot, int x.ino, str x.name]
theorem c_Entry (x : Entry) : closed (encEntry x) = true := by simp [encEntry, closed, closeds, cM_int, cM_bool, cM_str, cM_u8, cM_ik, cM_D, cM_LI, cM_LS, cM_runtime_boundsError, c_runtime_boundsError, cM_runtime_errorAddressString, c_runtime_errorAddressString, cM_Geo, c_Geo]
theorem cM_Entry (l : List Entry) : closeds (l.map encEntry) = true := closeds_map encEntry c_Entry l
structure Origin where
  layer : Int
  ino : Int
  gen : Int
  deriving Inhabited, DecidableEq
def encOrigin (x : Origin) : AV := .agg [int x.layer, int x.ino, int x.gen]
theorem c_Origin (x : Origin) : closed (encOrigin x) = true := by simp [encOrigin, closed, closeds, cM_int, cM_bool, cM_str, cM_u8, cM_ik, cM_D, cM_LI, cM_LS, cM_runtime_boundsError, c_runtime_boundsError, cM_runtime_errorAddressString, c_runtime_errorAddressString, cM_Geo, c_Geo, cM_Entry, c_Entry]
theorem cM_Origin (l : List Origin) : closeds (l.map encOrigin) = true := closeds_map encOrigin c_Origin l
structure Attr where
  has : Int
  opaque0 : Int
  redirect : ByteArray
  origin : Origin
  shown : Int
  deriving Inhabited, DecidableEq
def encAttr (x : Attr) : AV := .agg [int x.has, int x.opaque0, str x.redirect, int x.origin.layer, int x.origin.ino, int x.origin.gen, int x.shown]
theorem c_Attr (x : Attr) : closed (encAttr x) = true := by simp [encAttr, closed, closeds, cM_int, cM_bool, cM_str, cM_u8, cM_ik, cM_D, cM_LI, cM_LS, cM_runtime_boundsError, c_runtime_boundsError, cM_runtime_errorAddressString, c_runtime_errorAddressString, cM_Geo, c_Geo, cM_Entry, c_Entry, cM_Origin, c_Origin]
theorem cM_Attr (l : List Attr) : closeds (l.map encAttr) = true := closeds_map encAttr c_Attr l
structure Node where
  kind : Int
  impure : Int
  nlink : Int
  gen : Int
  data : List UInt8
  entries : List Entry
  attr : Attr
  deriving Inhabited, DecidableEq
def encNode (x : Node) : AV := .agg [int x.kind, int x.impure, int x.nlink, int x.gen, encD x.data, (sll 3 encEntry) x.entries, int x.attr.has, int x.attr.opaque0, str x.attr.redirect, int x.attr.origin.layer, int x.attr.origin.ino, int x.attr.origin.gen, int x.attr.shown]
theorem c_Node (x : Node) : closed (encNode x) = true := by simp [encNode, closed, closeds, cM_int, cM_bool, cM_str, cM_u8, cM_ik, cM_D, cM_LI, cM_LS, cM_runtime_boundsError, c_runtime_boundsError, cM_runtime_errorAddressString, c_runtime_errorAddressString, cM_Geo, c_Geo, cM_Entry, c_Entry, cM_Origin, c_Origin, cM_Attr, c_Attr]
theorem cM_Node (l : List Node) : closeds (l.map encNode) = true := closeds_map encNode c_Node l
structure Branch where
  nodes : List Node
  deriving Inhabited, DecidableEq
def encBranch (x : Branch) : AV := .agg [(sll 13 encNode) x.nodes]
theorem c_Branch (x : Branch) : closed (encBranch x) = true := by simp [encBranch, closed, closeds, cM_int, cM_bool, cM_str, cM_u8, cM_ik, cM_D, cM_LI, cM_LS, cM_runtime_boundsError, c_runtime_boundsError, cM_runtime_errorAddressString, c_runtime_errorAddressString, cM_Geo, c_Geo, cM_Entry, c_Entry, cM_Origin, c_Origin, cM_Attr, c_Attr, cM_Node, c_Node]
theorem cM_Branch (l : List Branch) : closeds (l.map encBranch) = true := closeds_map encBranch c_Branch l
structure Stack where
  geo : Geo
  upper : Branch
  lowers : List Branch
  deriving Inhabited, DecidableEq
def encStack (x : Stack) : AV := .agg [int x.geo.lowers, int x.geo.inodes, int x.geo.blocks, int x.geo.log, (sll 13 encNode) x.upper.nodes, (sll 1 encBranch) x.lowers]
theorem c_Stack (x : Stack) : closed (encStack x) = true := by simp [encStack, closed, closeds, cM_int, cM_bool, cM_str, cM_u8, cM_ik, cM_D, cM_LI, cM_LS, cM_runtime_boundsError, c_runtime_boundsError, cM_runtime_errorAddressString, c_runtime_errorAddressString, cM_Geo, c_Geo, cM_Entry, c_Entry, cM_Origin, c_Origin, cM_Attr, c_Attr, cM_Node, c_Node, cM_Branch, c_Branch]
theorem cM_Stack (l : List Stack) : closeds (l.map encStack) = true := closeds_map encStack c_Stack l
structure Place where
  layer : Int
  ino : Int
  deriving Inhabited, DecidableEq
def encPlace (x : Place) : AV := .agg [int x.layer, int x.ino]
theorem c_Place (x : Place) : closed (encPlace x) = true := by simp [encPlace, closed, closeds, cM_int, cM_bool, cM_str, cM_u8, cM_ik, cM_D, cM_LI, cM_LS, cM_runtime_boundsError, c_runtime_boundsError, cM_runtime_errorAddressString, c_runtime_errorAddressString, cM_Geo, c_Geo, cM_Entry, c_Entry, cM_Origin, c_Origin, cM_Attr, c_Attr, cM_Node, c_Node, cM_Branch, c_Branch, cM_Stack, c_Stack]
theorem cM_Place (l : List Place) : closeds (l.map encPlace) = true := closeds_map encPlace c_Place l
end Go.Proofs.Ytlgikchfddhocaa.AL

