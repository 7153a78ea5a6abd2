/- What of the attributes of any stack, and of any node, may not be, is what the document says: part 23 of 50. -/
import Derived.Test.YtapdjibjnfeipaaGreatDoorB22
set_option linter.all false
/- The program's data as Lean structures, as abstract values, and the rules of these; printed by gdata.py. -/
set_option linter.all false
namespace Go.Proofs.YtapdjibjnfeipaaGreatDoor.AL
abbrev noBytes : ByteArray := ⟨#[]⟩
abbrev ik (k : IntKind) (n : Int) : AV := .val (.int k n)
abbrev sll {α : Type} (s : Nat) (f : α → AV) (l : List α) : AV := .sl s (l.map f)
abbrev encD (d : List UInt8) : AV := .sl 1 (d.map u8)
theorem cM_int (l : List Int) : closeds (l.map int) = true := closeds_map int (fun _ => _root_.id rfl) l
theorem cM_bool (l : List Bool) : closeds (l.map bool) = true := closeds_map bool (fun _ => _root_.id rfl) l
theorem cM_str (l : List ByteArray) : closeds (l.map str) = true := closeds_map str (fun _ => _root_.id rfl) l
theorem cM_u8 (l : List UInt8) : closeds (l.map u8) = true := closeds_map u8 (fun _ => _root_.id rfl) l
theorem cM_ik (k : IntKind) (l : List Int) : closeds (l.map (ik k)) = true := closeds_map (ik k) (fun _ => _root_.id rfl) l
theorem c_D (l : List UInt8) : closed (encD l) = true := cM_u8 l
theorem cM_D (l : List (List UInt8)) : closeds (l.map encD) = true := closeds_map encD c_D l
theorem cM_LI (l : List (List Int)) : closeds (l.map (sll 1 int)) = true := closeds_map (sll 1 int) (fun x => by simp only [closed]; exact cM_int x) l
theorem cM_LS (l : List (List ByteArray)) : closeds (l.map (sll 1 str)) = true := closeds_map (sll 1 str) (fun x => by simp only [closed]; exact cM_str x) l
structure runtime_boundsError where
  x : Int
  y : Int
  signed : Bool
  code : Int
  deriving Inhabited, DecidableEq
def encruntime_boundsError (x : runtime_boundsError) : AV := .agg [int x.x, int x.y, bool x.signed, (ik .u8) x.code]
theorem c_runtime_boundsError (x : runtime_boundsError) : closed (encruntime_boundsError x) = true := by simp [encruntime_boundsError, closed, closeds, cM_int, cM_bool, cM_str, cM_u8, cM_ik, cM_D, cM_LI, cM_LS]
theorem cM_runtime_boundsError (l : List runtime_boundsError) : closeds (l.map encruntime_boundsError) = true := closeds_map encruntime_boundsError c_runtime_boundsError l
structure runtime_errorAddressString where
  msg : ByteArray
  addr : Int
  deriving Inhabited, DecidableEq
def encruntime_errorAddressString (x : runtime_errorAddressString) : AV := .agg [str x.msg, (ik .u64) x.addr]
theorem c_runtime_errorAddressString (x : runtime_errorAddressString) : closed (encruntime_errorAddressString x) = true := by simp [encruntime_errorAddressString, closed, closeds, cM_int, cM_bool, cM_str, cM_u8, cM_ik, cM_D, cM_LI, cM_LS, cM_runtime_boundsError, c_runtime_boundsError]
theorem cM_runtime_errorAddressString (l : List runtime_errorAddressString) : closeds (l.map encruntime_errorAddressString) = true := closeds_map encruntime_errorAddressString c_runtime_errorAddressString l
structure Geo where
  lowers : Int
  inodes : Int
  blocks : Int
  log : Int
  deriving Inhabited, DecidableEq
def encGeo (x : Geo) : AV := .agg [int x.lowers, int x.inodes, int x.blocks, int x.log]
theorem hs_Geo (x : Geo) : hasSize (encGeo x) 4 = true := _root_.id rfl
theorem c_Geo (x : Geo) : closed (encGeo x) = true := by simp [encGeo, closed, closeds, cM_int, cM_bool, cM_str, cM_u8, cM_ik, cM_D, cM_LI, cM_LS, cM_runtime_boundsError, c_runtime_boundsError, cM_runtime_errorAddressString, c_runtime_errorAddressString]
theorem cM_Geo (l : List Geo) : closeds (l.map encGeo) = true := closeds_map encGeo c_Geo l
theorem la_Geo (x : Geo) : ldAgg (encGeo x) 0 4 = some (encGeo x) := _root_.id rfl
theorem sa_Geo (x y : Geo) : stAV (encGeo x) 0 (encGeo y) = some (encGeo y) := _root_.id rfl
theorem sz_Geo (c0 c1 c2 c3 : AV) (x : Geo) : stAV (.agg [c0, c1, c2, c3]) 0 (encGeo x) = some (encGeo x) := _root_.id rfl
theorem sr_Geo (c0 c1 c2 c3 : AV) (x : Geo) : stAV (encGeo x) 0 (.agg [c0, c1, c2, c3]) = some (.agg [c0, c1, c2, c3]) := _root_.id rfl
theorem ce_Geo (x : Geo) : AV.cells (encGeo x) = [int x.lowers, int x.inodes, int x.blocks, int x.log] := _root_.id rfl
theorem l1_Geo_0 (x : Geo) : ldOne (encGeo x) 0 = some (int x.lowers) := _root_.id rfl
theorem s1_Geo_0 (x : Geo) (v : Int) : stAV (encGeo x) 0 (int v) = some (encGeo { x with lowers := v }) := _root_.id rfl
theorem p1_Geo_0 (x : Geo) : partO 0 (encGeo x) = some (int x.lowers) := _root_.id rfl
theorem l1_Geo_1 (x : Geo) : ldOne (encGeo x) 1 = some (int x.inodes) := _root_.id rfl
theorem s1_Geo_1 (x : Geo) (v : Int) : stAV (encGeo x) 1 (int v) = some (encGeo { x with inodes := v }) := _root_.id rfl
theorem p1_Geo_1 (x : Geo) : partO 1 (encGeo x) = some (int x.inodes) := _root_.id rfl
theorem l1_Geo_2 (x : Geo) : ldOne (encGeo x) 2 = some (int x.blocks) := _root_.id rfl
theorem s1_Geo_2 (x : Geo) (v : Int) : stAV (encGeo x) 2 (int v) = some (encGeo { x with blocks := v }) := _root_.id rfl
theorem p1_Geo_2 (x : Geo) : partO 2 (encGeo x) = some (int x.blocks) := _root_.id rfl
theorem l1_Geo_3 (x : Geo) : ldOne (encGeo x) 3 = some (int x.log) := _root_.id rfl
theorem s1_Geo_3 (x : Geo) (v : Int) : stAV (encGeo x) 3 (int v) = some (encGeo { x with log := v }) := _root_.id rfl
theorem p1_Geo_3 (x : Geo) : partO 3 (encGeo x) = some (int x.log) := _root_.id rfl
structure Entry where
  slot : Int
  ino : Int
  name : ByteArray
  deriving Inhabited, DecidableEq
def encEntry (x : Entry) : AV := .agg [int x.slot, int x.ino, str x.name]
theorem hs_Entry (x : Entry) : hasSize (encEntry x) 3 = true := _root_.id rfl
theorem c_Entry (x : Entry) : closed (encEntry x) = true := by simp [encEntry, closed, closeds, cM_int, cM_bool, cM_str, cM_u8, cM_ik, cM_D, cM_LI, cM_LS, cM_runtime_boundsError, c_runtime_boundsError, cM_runtime_errorAddressString, c_runtime_errorAddressString, cM_Geo, c_Geo]
theorem cM_Entry (l : List Entry) : closeds (l.map encEntry) = true := closeds_map encEntry c_Entry l
theorem la_Entry (x : Entry) : ldAgg (encEntry x) 0 3 = some (encEntry x) := _root_.id rfl
theorem sa_Entry (x y : Entry) : stAV (encEntry x) 0 (encEntry y) = some (encEntry y) := _root_.id rfl
theorem sz_Entry (c0 c1 c2 : AV) (x : Entry) : stAV (.agg [c0, c1, c2]) 0 (encEntry x) = some (encEntry x) := _root_.id rfl
theorem sr_Entry (c0 c1 c2 : AV) (x : Entry) : stAV (encEntry x) 0 (.agg [c0, c1, c2]) = some (.agg [c0, c1, c2]) := _root_.id rfl
theorem ce_Entry (x : Entry) : AV.cells (encEntry x) = [int x.slot, int x.ino, str x.name] := _root_.id rfl
theorem l1_Entry_0 (x : Entry) : ldOne (encEntry x) 0 = some (int x.slot) := _root_.id rfl
theorem s1_Entry_0 (x : Entry) (v : Int) : stAV (encEntry x) 0 (int v) = some (encEntry { x with slot := v }) := _root_.id rfl
theorem p1_Entry_0 (x : Entry) : partO 0 (encEntry x) = some (int x.slot) := _root_.id rfl
theorem l1_Entry_1 (x : Entry) : ldOne (encEntry x) 1 = some (int x.ino) := _root_.id rfl
theorem s1_Entry_1 (x : Entry) (v : Int) : stAV (encEntry x) 1 (int v) = some (encEntry { x with ino := v }) := _root_.id rfl
theorem p1_Entry_1 (x : Entry) : partO 1 (encEntry x) = some (int x.ino) := _root_.id rfl
theorem l1_Entry_2 (x : Entry) : ldOne (encEntry x) 2 = some (str x.name) := _root_.id rfl
theorem s1_Entry_2 (x : Entry) (v : ByteArray) : stAV (encEntry x) 2 (str v) = some (encEntry { x with name := v }) := _root_.id rfl
theorem p1_Entry_2 (x : Entry) : partO 2 (encEntry x) = some (str x.name) := _root_.id rfl
structure Origin where
  layer : Int
  ino : Int
  gen : Int
  deriving Inhabited, DecidableEq
def encOrigin (x : Origin) : AV := .agg [int x.layer, int x.ino, int x.gen]
theorem hs_Origin (x : Origin) : hasSize (encOrigin x) 3 = true := _root_.id rfl
theorem c_Origin (x : Origin) : closed (encOrigin x) = true := by simp [encOrigin, closed, closeds, cM_int, cM_bool, cM_str, cM_u8, cM_ik, cM_D, cM_LI, cM_LS, cM_runtime_boundsError, c_runtime_boundsError, cM_runtime_errorAddressString, c_runtime_errorAddressString, cM_Geo, c_Geo, cM_Entry, c_Entry]
theorem cM_Origin (l : List Origin) : closeds (l.map encOrigin) = true := closeds_map encOrigin c_Origin l
theorem la_Origin (x : Origin) : ldAgg (encOrigin x) 0 3 = some (encOrigin x) := _root_.id rfl
theorem sa_Origin (x y : Origin) : stAV (encOrigin x) 0 (encOrigin y) = some (encOrigin y) := _root_.id rfl
theorem sz_Origin (c0 c1 c2 : AV) (x : Origin) : stAV (.agg [c0, c1, c2]) 0 (encOrigin x) = some (encOrigin x) := _root_.id rfl
theorem sr_Origin (c0 c1 c2 : AV) (x : Origin) : stAV (encOrigin x) 0 (.agg [c0, c1, c2]) = some (.agg [c0, c1, c2]) := _root_.id rfl
theorem ce_Origin (x : Origin) : AV.cells (encOrigin x) = [int x.layer, int x.ino, int x.gen] := _root_.id rfl
theorem l1_Origin_0 (x : Origin) : ldOne (encOrigin x) 0 = some (int x.layer) := _root_.id rfl
theorem s1_Origin_0 (x : Origin) (v : Int) : stAV (encOrigin x) 0 (int v) = some (encOrigin { x with layer := v }) := _root_.id rfl
theorem p1_Origin_0 (x : Origin) : partO 0 (encOrigin x) = some (int x.layer) := _root_.id rfl
theorem l1_Origin_1 (x : Origin) : ldOne (encOrigin x) 1 = some (int x.ino) := _root_.id rfl
theorem s1_Origin_1 (x : Origin) (v : Int) : stAV (encOrigin x) 1 (int v) = some (encOrigin { x with ino := v }) := _root_.id rfl
theorem p1_Origin_1 (x : Origin) : partO 1 (encOrigin x) = some (int x.ino) := _root_.id rfl
theorem l1_Origin_2 (x : Origin) : ldOne (encOrigin x) 2 = some (int x.gen) := _root_.id rfl
theorem s1_Origin_2 (x : Origin) (v : Int) : stAV (encOrigin x) 2 (int v) = some (encOrigin { x with gen := v }) := _root_.id rfl
theorem p1_Origin_2 (x : Origin) : partO 2 (encOrigin x) = some (int x.gen) := _root_.id rfl
structure Attr where
  has : Int
  opaque0 : Int
  redirect : ByteArray
  origin : Origin
  shown : Int
  deriving Inhabited, DecidableEq
def encAttr (x : Attr) : AV := .agg [int x.has, int x.opaque0, str x.redirect, int x.origin.layer, int x.origin.ino, int x.origin.gen, int x.shown]
theorem hs_Attr (x : Attr) : hasSize (encAttr x) 7 = true := _root_.id rfl
theorem c_Attr (x : Attr) : closed (encAttr x) = true := by simp [encAttr, closed, closeds, cM_int, cM_bool, cM_str, cM_u8, cM_ik, cM_D, cM_LI, cM_LS, cM_runtime_boundsError, c_runtime_boundsError, cM_runtime_errorAddressString, c_runtime_errorAddressString, cM_Geo, c_Geo, cM_Entry, c_Entry, cM_Origin, c_Origin]
theorem cM_Attr (l : List Attr) : closeds (l.map encAttr) = true := closeds_map encAttr c_Attr l
theorem la_Attr (x : Attr) : ldAgg (encAttr x) 0 7 = some (encAttr x) := _root_.id rfl
theorem sa_Attr (x y : Attr) : stAV (encAttr x) 0 (encAttr y) = some (encAttr y) := _root_.id rfl
theorem sz_Attr (c0 c1 c2 c3 c4 c5 c6 : AV) (x : Attr) : stAV (.agg [c0, c1, c2, c3, c4, c5, c6]) 0 (encAttr x) = some (encAttr x) := _root_.id rfl
theorem sr_Attr (c0 c1 c2 c3 c4 c5 c6 : AV) (x : Attr) : stAV (encAttr x) 0 (.agg [c0, c1, c2, c3, c4, c5, c6]) = some (.agg [c0, c1, c2, c3, c4, c5, c6]) := _root_.id rfl
theorem ce_Attr (x : Attr) : AV.cells (encAttr x) = [int x.has, int x.opaque0, str x.redirect, int x.origin.layer, int x.origin.ino, int x.origin.gen, int x.shown] := _root_.id rfl
theorem l1_Attr_0 (x : Attr) : ldOne (encAttr x) 0 = some (int x.has) := _root_.id rfl
theorem s1_Attr_0 (x : Attr) (v : Int) : stAV (encAttr x) 0 (int v) = some (encAttr { x with has := v }) := _root_.id rfl
theorem p1_Attr_0 (x : Attr) : partO 0 (encAttr x) = some (int x.has) := _root_.id rfl
theorem l1_Attr_1 (x : Attr) : ldOne (encAttr x) 1 = some (int x.opaque0) := _root_.id rfl
theorem s1_Attr_1 (x : Attr) (v : Int) : stAV (encAttr x) 1 (int v) = some (encAttr { x with opaque0 := v }) := _root_.id rfl
theorem p1_Attr_1 (x : Attr) : partO 1 (encAttr x) = some (int x.opaque0) := _root_.id rfl
theorem l1_Attr_2 (x : Attr) : ldOne (encAttr x) 2 = some (str x.redirect) := _root_.id rfl
theorem s1_Attr_2 (x : Attr) (v : ByteArray) : stAV (encAttr x) 2 (str v) = some (encAttr { x with redirect := v }) := _root_.id rfl
theorem p1_Attr_2 (x : Attr) : partO 2 (encAttr x) = some (str x.redirect) := _root_.id rfl
theorem la_Attr_3_3 (x : Attr) : ldAgg (encAttr x) 3 3 = some (encOrigin x.origin) := _root_.id rfl
theorem sa_Attr_3_3 (x : Attr) (v : Origin) : stAV (encAttr x) 3 (encOrigin v) = some (encAttr { x with origin := v }) := _root_.id rfl
theorem pa_Attr_3_3 (x : Attr) : partA 3 3 (encAttr x) = some (encOrigin x.origin) := _root_.id rfl
theorem l1_Attr_3 (x : Attr) : ldOne (encAttr x) 3 = some (int x.origin.layer) := _root_.id rfl
theorem s1_Attr_3 (x : Attr) (v : Int) : stAV (encAttr x) 3 (int v) = some (encAttr { x with origin := { x.origin with layer := v } }) := _root_.id rfl
theorem p1_Attr_3 (x : Attr) : partO 3 (encAttr x) = some (int x.origin.layer) := _root_.id rfl
theorem l1_Attr_4 (x : Attr) : ldOne (encAttr x) 4 = some (int x.origin.ino) := _root_.id rfl
theorem s1_Attr_4 (x : Attr) (v : Int) : stAV (encAttr x) 4 (int v) = some (encAttr { x with origin := { x.origin with ino := v } }) := _root_.id rfl
theorem p1_Attr_4 (x : Attr) : partO 4 (encAttr x) = some (int x.origin.ino) := _root_.id rfl
theorem l1_Attr_5 (x : Attr) : ldOne (encAttr x) 5 = some (int x.origin.gen) := _root_.id rfl
theorem s1_Attr_5 (x : Attr) (v : Int) : stAV (encAttr x) 5 (int v) = some (encAttr { x with origin := { x.origin with gen := v } }) := _root_.id rfl
theorem p1_Attr_5 (x : Attr) : partO 5 (encAttr x) = some (int x.origin.gen) := _root_.id rfl
theorem l1_Attr_6 (x : Attr) : ldOne (encAttr x) 6 = some (int x.shown) := _root_.id rfl
theorem s1_Attr_6 (x : Attr) (v : Int) : stAV (encAttr x) 6 (int v) = some (encAttr { x with shown := v }) := _root_.id rfl
theorem p1_Attr_6 (x : Attr) : partO 6 (encAttr x) = some (int x.shown) := _root_.id rfl
structure Node where
  kind : Int
  impure : Int
  nlink : Int
  gen : Int
  data : List UInt8
  entries : List Entry
  attr : Attr
  deriving Inhabited, DecidableEq
def encNode (x : Node) : AV := .agg [int x.kind, int x.impure, int x.nlink, int x.gen, encD x.data, (sll 3 encEntry) x.entries, int x.attr.has, int x.attr.opaque0, str x.attr.redirect, int x.attr.origin.layer, int x.attr.origin.ino, int x.attr.origin.gen, int x.attr.shown]
theorem hs_Node (x : Node) : hasSize (encNode x) 13 = true := _root_.id rfl
theorem c_Node (x : Node) : closed (encNode x) = true := by simp [encNode, closed, closeds, cM_int, cM_bool, cM_str, cM_u8, cM_ik, cM_D, cM_LI, cM_LS, cM_runtime_boundsError, c_runtime_boundsError, cM_runtime_errorAddressString, c_runtime_errorAddressString, cM_Geo, c_Geo, cM_Entry, c_Entry, cM_Origin, c_Origin, cM_Attr, c_Attr]
theorem cM_Node (l : List Node) : closeds (l.map encNode) = true := closeds_map encNode c_Node l
theorem la_Node (x : Node) : ldAgg (encNode x) 0 13 = some (encNode x) := _root_.id rfl
theorem sa_Node (x y : Node) : stAV (encNode x) 0 (encNode y) = some (encNode y) := _root_.id rfl
theorem sz_Node (c0 c1 c2 c3 c4 c5 c6 c7 c8 c9 c10 c11 c12 : AV) (x : Node) : stAV (.agg [c0, c1, c2, c3, c4, c5, c6, c7, c8, c9, c10, c11, c12]) 0 (encNode x) = some (encNode x) := _root_.id rfl
theorem sr_Node (c0 c1 c2 c3 c4 c5 c6 c7 c8 c9 c10 c11 c12 : AV) (x : Node) : stAV (encNode x) 0 (.agg [c0, c1, c2, c3, c4, c5, c6, c7, c8, c9, c10, c11, c12]) = some (.agg [c0, c1, c2, c3, c4, c5, c6, c7, c8, c9, c10, c11, c12]) := _root_.id rfl
theorem ce_Node (x : Node) : AV.cells (encNode x) = [int x.kind, int x.impure, int x.nlink, int x.gen, encD x.data, (sll 3 encEntry) x.entries, int x.attr.has, int x.attr.opaque0, str x.attr.redirect, int x.attr.origin.layer, int x.attr.origin.ino, int x.attr.origin.gen, int x.attr.shown] := _root_.id rfl
theorem l1_Node_0 (x : Node) : ldOne (encNode x) 0 = some (int x.kind) := _root_.id rfl
theorem s1_Node_0 (x : Node) (v : Int) : stAV (encNode x) 0 (int v) = some (encNode { x with kind := v }) := _root_.id rfl
theorem p1_Node_0 (x : Node) : partO 0 (encNode x) = some (int x.kind) := _root_.id rfl
theorem l1_Node_1 (x : Node) : ldOne (encNode x) 1 = some (int x.impure) := _root_.id rfl
theorem s1_Node_1 (x : Node) (v : Int) : stAV (encNode x) 1 (int v) = some (encNode { x with impure := v }) := _root_.id rfl
theorem p1_Node_1 (x : Node) : partO 1 (encNode x) = some (int x.impure) := _root_.id rfl
theorem l1_Node_2 (x : Node) : ldOne (encNode x) 2 = some (int x.nlink) := _root_.id rfl
theorem s1_Node_2 (x : Node) (v : Int) : stAV (encNode x) 2 (int v) = some (encNode { x with nlink := v }) := _root_.id rfl
theorem p1_Node_2 (x : Node) : partO 2 (encNode x) = some (int x.nlink) := _root_.id rfl
theorem l1_Node_3 (x : Node) : ldOne (encNode x) 3 = some (int x.gen) := _root_.id rfl
theorem s1_Node_3 (x : Node) (v : Int) : stAV (encNode x) 3 (int v) = some (encNode { x with gen := v }) := _root_.id rfl
theorem p1_Node_3 (x : Node) : partO 3 (encNode x) = some (int x.gen) := _root_.id rfl
theorem l1_Node_4 (x : Node) : ldOne (encNode x) 4 = some (encD x.data) := _root_.id rfl
theorem s1_Node_4 (x : Node) (v : List UInt8) : stAV (encNode x) 4 (encD v) = some (encNode { x with data := v }) := _root_.id rfl
theorem sm_Node_4 (x : Node) (l n : Nat) : stAV (encNode x) 4 (.msl l n) = some (.agg [int x.kind, int x.impure, int x.nlink, int x.gen, .msl l n, (sll 3 encEntry) x.entries, int x.attr.has, int x.attr.opaque0, str x.attr.redirect, int x.attr.origin.layer, int x.attr.origin.ino, int x.attr.origin.gen, int x.attr.shown]) := _root_.id rfl
theorem sn_Node_4 (x : Node) : stAV (encNode x) 4 (.val (.slice none 0 0)) = some (.agg [int x.kind, int x.impure, int x.nlink, int x.gen, .val (.slice none 0 0), (sll 3 encEntry) x.entries, int x.attr.has, int x.attr.opaque0, str x.attr.redirect, int x.attr.origin.layer, int x.attr.origin.ino, int x.attr.origin.gen, int x.attr.shown]) := _root_.id rfl
theorem p1_Node_4 (x : Node) : partO 4 (encNode x) = some (encD x.data) := _root_.id rfl
theorem l1_Node_5 (x : Node) : ldOne (encNode x) 5 = some ((sll 3 encEntry) x.entries) := _root_.id rfl
theorem s1_Node_5 (x : Node) (v : List Entry) : stAV (encNode x) 5 ((sll 3 encEntry) v) = some (encNode { x with entries := v }) := _root_.id rfl
theorem sm_Node_5 (x : Node) (l n : Nat) : stAV (encNode x) 5 (.msl l n) = some (.agg [int x.kind, int x.impure, int x.nlink, int x.gen, encD x.data, .msl l n, int x.attr.has, int x.attr.opaque0, str x.attr.redirect, int x.attr.origin.layer, int x.attr.origin.ino, int x.attr.origin.gen, int x.attr.shown]) := _root_.id rfl
theorem sn_Node_5 (x : Node) : stAV (encNode x) 5 (.val (.slice none 0 0)) = some (.agg [int x.kind, int x.impure, int x.nlink, int x.gen, encD x.data, .val (.slice none 0 0), int x.attr.has, int x.attr.opaque0, str x.attr.redirect, int x.attr.origin.layer, int x.attr.origin.ino, int x.attr.origin.gen, int x.attr.shown]) := _root_.id rfl
theorem p1_Node_5 (x : Node) : partO 5 (encNode x) = some ((sll 3 encEntry) x.entries) := _root_.id rfl
theorem la_Node_6_7 (x : Node) : ldAgg (encNode x) 6 7 = some (encAttr x.attr) := _root_.id rfl
theorem sa_Node_6_7 (x : Node) (v : Attr) : stAV (encNode x) 6 (encAttr v) = some (encNode { x with attr := v }) := _root_.id rfl
theorem pa_Node_6_7 (x : Node) : partA 6 7 (encNode x) = some (encAttr x.attr) := _root_.id rfl
theorem l1_Node_6 (x : Node) : ldOne (encNode x) 6 = some (int x.attr.has) := _root_.id rfl
theorem s1_Node_6 (x : Node) (v : Int) : stAV (encNode x) 6 (int v) = some (encNode { x with attr := { x.attr with has := v } }) := _root_.id rfl
theorem p1_Node_6 (x : Node) : partO 6 (encNode x) = some (int x.attr.has) := _root_.id rfl
theorem l1_Node_7 (x : Node) : ldOne (encNode x) 7 = some (int x.attr.opaque0) := _root_.id rfl
theorem s1_Node_7 (x : Node) (v : Int) : stAV (encNode x) 7 (int v) = some (encNode { x with attr := { x.attr with opaque0 := v } }) := _root_.id rfl
theorem p1_Node_7 (x : Node) : partO 7 (encNode x) = some (int x.attr.opaque0) := _root_.id rfl
theorem l1_Node_8 (x : Node) : ldOne (encNode x) 8 = some (str x.attr.redirect) := _root_.id rfl
theorem s1_Node_8 (x : Node) (v : ByteArray) : stAV (encNode x) 8 (str v) = some (encNode { x with attr := { x.attr with redirect := v } }) := _root_.id rfl
theorem p1_Node_8 (x : Node) : partO 8 (encNode x) = some (str x.attr.redirect) := _root_.id rfl
theorem la_Node_9_3 (x : Node) : ldAgg (encNode x) 9 3 = some (encOrigin x.attr.origin) := _root_.id rfl
theorem sa_Node_9_3 (x : Node) (v : Origin) : stAV (encNode x) 9 (encOrigin v) = some (encNode { x with attr := { x.attr with origin := v } }) := _root_.id rfl
theorem pa_Node_9_3 (x : Node) : partA 9 3 (encNode x) = some (encOrigin x.attr.origin) := _root_.id rfl
theorem l1_Node_9 (x : Node) : ldOne (encNode x) 9 = some (int x.attr.origin.layer) := _root_.id rfl
theorem s1_Node_9 (x : Node) (v : Int) : stAV (encNode x) 9 (int v) = some (encNode { x with attr := { x.attr with origin := { x.attr.origin with layer := v } } }) := _root_.id rfl
theorem p1_Node_9 (x : Node) : partO 9 (encNode x) = some (int x.attr.origin.layer) := _root_.id rfl
theorem l1_Node_10 (x : Node) : ldOne (encNode x) 10 = some (int x.attr.origin.ino) := _root_.id rfl
theorem s1_Node_10 (x : Node) (v : Int) : stAV (encNode x) 10 (int v) = some (encNode { x with attr := { x.attr with origin := { x.attr.origin with ino := v } } }) := _root_.id rfl
theorem p1_Node_10 (x : Node) : partO 10 (encNode x) = some (int x.attr.origin.ino) := _root_.id rfl
theorem l1_Node_11 (x : Node) : ldOne (encNode x) 11 = some (int x.attr.origin.gen) := _root_.id rfl
theorem s1_Node_11 (x : Node) (v : Int) : stAV (encNode x) 11 (int v) = some (encNode { x with attr := { x.attr with origin := { x.attr.origin with gen := v } } }) := _root_.id rfl
theorem p1_Node_11 (x : Node) : partO 11 (encNode x) = some (int x.attr.origin.gen) := _root_.id rfl
theorem l1_Node_12 (x : Node) : ldOne (encNode x) 12 = some (int x.attr.shown) := _root_.id rfl
theorem s1_Node_12 (x : Node) (v : Int) : stAV (encNode x) 12 (int v) = some (encNode { x with attr := { x.attr with shown := v } }) := _root_.id rfl
theorem p1_Node_12 (x : Node) : partO 12 (encNode x) = some (int x.attr.shown) := _root_.id rfl
structure Branch where
  nodes : List Node
  deriving Inhabited, DecidableEq
def encBranch (x : Branch) : AV := .agg [(sll 13 encNode) x.nodes]
theorem hs_Branch (x : Branch) : hasSize (encBranch x) 1 = true := _root_.id rfl
theorem c_Branch (x : Branch) : closed (encBranch x) = true := by simp [encBranch, closed, closeds, cM_int, cM_bool, cM_str, cM_u8, cM_ik, cM_D, cM_LI, cM_LS, cM_runtime_boundsError, c_runtime_boundsError, cM_runtime_errorAddressString, c_runtime_errorAddressString, cM_Geo, c_Geo, cM_Entry, c_Entry, cM_Origin, c_Origin, cM_Attr, c_Attr, cM_Node, c_Node]
theorem cM_Branch (l : List Branch) : closeds (l.map encBranch) = true := closeds_map encBranch c_Branch l
theorem la_Branch (x : Branch) : ldAgg (encBranch x) 0 1 = some (encBranch x) := _root_.id rfl
theorem ldx_Branch (x : Branch) : ldOne (encBranch x) 0 = some ((sll 13 encNode) x.nodes) := _root_.id rfl
theorem sa_Branch (x y : Branch) : stAV (encBranch x) 0 (encBranch y) = some (encBranch y) := _root_.id rfl
theorem sz_Branch (c0 : AV) (x : Branch) : stAV (.agg [c0]) 0 (encBranch x) = some (encBranch x) := _root_.id rfl
theorem sr_Branch (c0 : AV) (x : Branch) : stAV (encBranch x) 0 (.agg [c0]) = some (.agg [c0]) := _root_.id rfl
theorem ce_Branch (x : Branch) : AV.cells (encBranch x) = [(sll 13 encNode) x.nodes] := _root_.id rfl
theorem s1_Branch_0 (x : Branch) (v : List Node) : stAV (encBranch x) 0 ((sll 13 encNode) v) = some (encBranch { x with nodes := v }) := _root_.id rfl
theorem sm_Branch_0 (x : Branch) (l n : Nat) : stAV (encBranch x) 0 (.msl l n) = some (.agg [.msl l n]) := _root_.id rfl
theorem sn_Branch_0 (x : Branch) : stAV (encBranch x) 0 (.val (.slice none 0 0)) = some (.agg [.val (.slice none 0 0)]) := _root_.id rfl
theorem p1_Branch_0 (x : Branch) : partO 0 (encBranch x) = some ((sll 13 encNode) x.nodes) := _root_.id rfl
structure Stack where
  geo : Geo
  upper : Branch
  lowers : List Branch
  deriving Inhabited, DecidableEq
def encStack (x : Stack) : AV := .agg [int x.geo.lowers, int x.geo.inodes, int x.geo.blocks, int x.geo.log, (sll 13 encNode) x.upper.nodes, (sll 1 encBranch) x.lowers]
theorem hs_Stack (x : Stack) : hasSize (encStack x) 6 = true := _root_.id rfl
theorem c_Stack (x : Stack) : closed (encStack x) = true := by simp [encStack, closed, closeds, cM_int, cM_bool, cM_str, cM_u8, cM_ik, cM_D, cM_LI, cM_LS, cM_runtime_boundsError, c_runtime_boundsError, cM_runtime_errorAddressString, c_runtime_errorAddressString, cM_Geo, c_Geo, cM_Entry, c_Entry, cM_Origin, c_Origin, cM_Attr, c_Attr, cM_Node, c_Node, cM_Branch, c_Branch]
theorem cM_Stack (l : List Stack) : closeds (l.map encStack) = true := closeds_map encStack c_Stack l
theorem la_Stack (x : Stack) : ldAgg (encStack x) 0 6 = some (encStack x) := _root_.id rfl
theorem sa_Stack (x y : Stack) : stAV (encStack x) 0 (encStack y) = some (encStack y) := _root_.id rfl
theorem sz_Stack (c0 c1 c2 c3 c4 c5 : AV) (x : Stack) : stAV (.agg [c0, c1, c2, c3, c4, c5]) 0 (encStack x) = some (encStack x) := _root_.id rfl
theorem sr_Stack (c0 c1 c2 c3 c4 c5 : AV) (x : Stack) : stAV (encStack x) 0 (.agg [c0, c1, c2, c3, c4, c5]) = some (.agg [c0, c1, c2, c3, c4, c5]) := _root_.id rfl
theorem ce_Stack (x : Stack) : AV.cells (encStack x) = [int x.geo.lowers, int x.geo.inodes, int x.geo.blocks, int x.geo.log, (sll 13 encNode) x.upper.nodes, (sll 1 encBranch) x.lowers] := _root_.id rfl
theorem la_Stack_0_4 (x : Stack) : ldAgg (encStack x) 0 4 = some (encGeo x.geo) := _root_.id rfl
theorem sa_Stack_0_4 (x : Stack) (v : Geo) : stAV (encStack x) 0 (encGeo v) = some (encStack { x with geo := v }) := _root_.id rfl
theorem pa_Stack_0_4 (x : Stack) : partA 0 4 (encStack x) = some (encGeo x.geo) := _root_.id rfl
theorem l1_Stack_0 (x : Stack) : ldOne (encStack x) 0 = some (int x.geo.lowers) := _root_.id rfl
theorem s1_Stack_0 (x : Stack) (v : Int) : stAV (encStack x) 0 (int v) = some (encStack { x with geo := { x.geo with lowers := v } }) := _root_.id rfl
theorem p1_Stack_0 (x : Stack) : partO 0 (encStack x) = some (int x.geo.lowers) := _root_.id rfl
theorem l1_Stack_1 (x : Stack) : ldOne (encStack x) 1 = some (int x.geo.inodes) := _root_.id rfl
theorem s1_Stack_1 (x : Stack) (v : Int) : stAV (encStack x) 1 (int v) = some (encStack { x with geo := { x.geo with inodes := v } }) := _root_.id rfl
theorem p1_Stack_1 (x : Stack) : partO 1 (encStack x) = some (int x.geo.inodes) := _root_.id rfl
theorem l1_Stack_2 (x : Stack) : ldOne (encStack x) 2 = some (int x.geo.blocks) := _root_.id rfl
theorem s1_Stack_2 (x : Stack) (v : Int) : stAV (encStack x) 2 (int v) = some (encStack { x with geo := { x.geo with blocks := v } }) := _root_.id rfl
theorem p1_Stack_2 (x : Stack) : partO 2 (encStack x) = some (int x.geo.blocks) := _root_.id rfl
theorem l1_Stack_3 (x : Stack) : ldOne (encStack x) 3 = some (int x.geo.log) := _root_.id rfl
theorem s1_Stack_3 (x : Stack) (v : Int) : stAV (encStack x) 3 (int v) = some (encStack { x with geo := { x.geo with log := v } }) := _root_.id rfl
theorem p1_Stack_3 (x : Stack) : partO 3 (encStack x) = some (int x.geo.log) := _root_.id rfl
theorem la_Stack_4_1 (x : Stack) : ldAgg (encStack x) 4 1 = some (encBranch x.upper) := _root_.id rfl
theorem sa_Stack_4_1 (x : Stack) (v : Branch) : stAV (encStack x) 4 (encBranch v) = some (encStack { x with upper := v }) := _root_.id rfl
theorem pa_Stack_4_1 (x : Stack) : partA 4 1 (encStack x) = some (encBranch x.upper) := _root_.id rfl
theorem l1_Stack_4 (x : Stack) : ldOne (encStack x) 4 = some ((sll 13 encNode) x.upper.nodes) := _root_.id rfl
theorem s1_Stack_4 (x : Stack) (v : List Node) : stAV (encStack x) 4 ((sll 13 encNode) v) = some (encStack { x with upper := { x.upper with nodes := v } }) := _root_.id rfl
theorem sm_Stack_4 (x : Stack) (l n : Nat) : stAV (encStack x) 4 (.msl l n) = some (.agg [int x.geo.lowers, int x.geo.inodes, int x.geo.blocks, int x.geo.log, .msl l n, (sll 1 encBranch) x.lowers]) := _root_.id rfl
theorem sn_Stack_4 (x : Stack) : stAV (encStack x) 4 (.val (.slice none 0 0)) = some (.agg [int x.geo.lowers, int x.geo.inodes, int x.geo.blocks, int x.geo.log, .val (.slice none 0 0), (sll 1 encBranch) x.lowers]) := _root_.id rfl
theorem p1_Stack_4 (x : Stack) : partO 4 (encStack x) = some ((sll 13 encNode) x.upper.nodes) := _root_.id rfl
theorem l1_Stack_5 (x : Stack) : ldOne (encStack x) 5 = some ((sll 1 encBranch) x.lowers) := _root_.id rfl
theorem s1_Stack_5 (x : Stack) (v : List Branch) : stAV (encStack x) 5 ((sll 1 encBranch) v) = some (encStack { x with lowers := v }) := _root_.id rfl
theorem sm_Stack_5 (x : Stack) (l n : Nat) : stAV (encStack x) 5 (.msl l n) = some (.agg [int x.geo.lowers, int x.geo.inodes, int x.geo.blocks, int x.geo.log, (sll 13 encNode) x.upper.nodes, .msl l n]) := _root_.id rfl
theorem sn_Stack_5 (x : Stack) : stAV (encStack x) 5 (.val (.slice none 0 0)) = some (.agg [int x.geo.lowers, int x.geo.inodes, int x.geo.blocks, int x.geo.log, (sll 13 encNode) x.upper.nodes, .val (.slice none 0 0)]) := _root_.id rfl
theorem p1_Stack_5 (x : Stack) : partO 5 (encStack x) = some ((sll 1 encBranch) x.lowers) := _root_.id rfl
structure Place where
  layer : Int
  ino : Int
  deriving Inhabited, DecidableEq
def encPlace (x : Place) : AV := .agg [int x.layer, int x.ino]
theorem hs_Place (x : Place) : hasSize (encPlace x) 2 = true := _root_.id rfl
theorem c_Place (x : Place) : closed (encPlace x) = true := by simp [encPlace, closed, closeds, cM_int, cM_bool, cM_str, cM_u8, cM_ik, cM_D, cM_LI, cM_LS, cM_runtime_boundsError, c_runtime_boundsError, cM_runtime_errorAddressString, c_runtime_errorAddressString, cM_Geo, c_Geo, cM_Entry, c_Entry, cM_Origin, c_Origin, cM_Attr, c_Attr, cM_Node, c_Node, cM_Branch, c_Branch, cM_Stack, c_Stack]
theorem cM_Place (l : List Place) : closeds (l.map encPlace) = true := closeds_map encPlace c_Place l
theorem la_Place (x : Place) : ldAgg (encPlace x) 0 2 = some (encPlace x) := _root_.id rfl
theorem sa_Place (x y : Place) : stAV (encPlace x) 0 (encPlace y) = some (encPlace y) := _root_.id rfl
theorem sz_Place (c0 c1 : AV) (x : Place) : stAV (.agg [c0, c1]) 0 (encPlace x) = some (encPlace x) := _root_.id rfl
theorem sr_Place (c0 c1 : AV) (x : Place) : stAV (encPlace x) 0 (.agg [c0, c1]) = some (.agg [c0, c1]) := _root_.id rfl
theorem ce_Place (x : Place) : AV.cells (encPlace x) = [int x.layer, int x.ino] := _root_.id rfl
theorem l1_Place_0 (x : Place) : ldOne (encPlace x) 0 = some (int x.layer) := _root_.id rfl
theorem s1_Place_0 (x : Place) (v : Int) : stAV (encPlace x) 0 (int v) = some (encPlace { x with layer := v }) := _root_.id rfl
theorem p1_Place_0 (x : Place) : partO 0 (encPlace x) = some (int x.layer) := _root_.id rfl
theorem l1_Place_1 (x : Place) : ldOne (encPlace x) 1 = some (int x.ino) := _root_.id rfl
theorem s1_Place_1 (x : Place) (v : Int) : stAV (encPlace x) 1 (int v) = some (encPlace { x with ino := v }) := _root_.id rfl
theorem p1_Place_1 (x : Place) : partO 1 (encPlace x) = some (int x.ino) := _root_.id rfl
structure View where
  upper : Int
  lower : List Place
  deriving Inhabited, DecidableEq
def encView (x : View) : AV := .agg [int x.upper, (sll 2 encPlace) x.lower]
theorem hs_View (x : View) : hasSize (encView x) 2 = true := _root_.id rfl
theorem c_View (x : View) : closed (encView x) = true := by simp [encView, closed, closeds, cM_int, cM_bool, cM_str, cM_u8, cM_ik, cM_D, cM_LI, cM_LS, cM_runtime_boundsError, c_runtime_boundsError, cM_runtime_errorAddressString, c_runtime_errorAddressString, cM_Geo, c_Geo, cM_Entry, c_Entry, cM_Origin, c_Origin, cM_Attr, c_Attr, cM_Node, c_Node, cM_Branch, c_Branch, cM_Stack, c_Stack, cM_Place, c_Place]
theorem cM_View (l : List View) : closeds (l.map encView) = true := closeds_map encView c_View l
theorem la_View (x : View) : ldAgg (encView x) 0 2 = some (encView x) := _root_.id rfl
theorem sa_View (x y : View) : stAV (encView x) 0 (encView y) = some (encView y) := _root_.id rfl
theorem sz_View (c0 c1 : AV) (x : View) : stAV (.agg [c0, c1]) 0 (encView x) = some (encView x) := _root_.id rfl
theorem sr_View (c0 c1 : AV) (x : View) : stAV (encView x) 0 (.agg [c0, c1]) = some (.agg [c0, c1]) := _root_.id rfl
theorem ce_View (x : View) : AV.cells (encView x) = [int x.upper, (sll 2 encPlace) x.lower] := _root_.id rfl
theorem l1_View_0 (x : View) : ldOne (encView x) 0 = some (int x.upper) := _root_.id rfl
theorem s1_View_0 (x : View) (v : Int) : stAV (encView x) 0 (int v) = some (encView { x with upper := v }) := _root_.id rfl
theorem p1_View_0 (x : View) : partO 0 (encView x) = some (int x.upper) := _root_.id rfl
theorem l1_View_1 (x : View) : ldOne (encView x) 1 = some ((sll 2 encPlace) x.lower) := _root_.id rfl
theorem s1_View_1 (x : View) (v : List Place) : stAV (encView x) 1 ((sll 2 encPlace) v) = some (encView { x with lower := v }) := _root_.id rfl
theorem sm_View_1 (x : View) (l n : Nat) : stAV (encView x) 1 (.msl l n) = some (.agg [int x.upper, .msl l n]) := _root_.id rfl
theorem sn_View_1 (x : View) : stAV (encView x) 1 (.val (.slice none 0 0)) = some (.agg [int x.upper, .val (.slice none 0 0)]) := _root_.id rfl
theorem p1_View_1 (x : View) : partO 1 (encView x) = some ((sll 2 encPlace) x.lower) := _root_.id rfl
structure Finding where
  clause : Int
  layer : Int
  ino : Int
  slot : Int
  deriving Inhabited, DecidableEq
def encFinding (x : Finding) : AV := .agg [int x.clause, int x.layer, int x.ino, int x.slot]
theorem c_Finding (x : Finding) : closed (encFinding x) = true := by simp [encFinding, closed, closeds, cM_int, cM_bool, cM_str, cM_u8, cM_ik, cM_D, cM_LI, cM_LS, cM_runtime_boundsError, c_runtime_boundsError, cM_runtime_errorAddressString, c_runtime_errorAddressString, cM_Geo, c_Geo, cM_Entry, c_Entry, cM_Origin, c_Origin, cM_Attr, c_Attr, cM_Node, c_Node, cM_Branch, c_Branch, cM_Stack, c_Stack, cM_Place, c_Place, cM_View, c_View]
theorem cM_Finding (l : List Finding) : closeds (l.map encFinding) = true := closeds_map encFinding c_Finding l
structure Way where
  ino : Int
  up : Int
  name : ByteArray
  deriving Inhabited, DecidableEq
def encWay (x : Way) : AV := .agg [int x.ino, int x.up, str x.name]
theorem hs_Way (x : Way) : hasSize (encWay x) 3 = true := _root_.id rfl
theorem c_Way (x : Way) : closed (encWay x) = true := by simp [encWay, closed, closeds, cM_int, cM_bool, cM_str, cM_u8, cM_ik, cM_D, cM_LI, cM_LS, cM_runtime_boundsError, c_runtime_boundsError, cM_runtime_errorAddressString, c_runtime_errorAddressString, cM_Geo, c_Geo, cM_Entry, c_Entry, cM_Origin, c_Origin, cM_Attr, c_Attr, cM_Node, c_Node, cM_Branch, c_Branch, cM_Stack, c_Stack, cM_Place, c_Place, cM_View, c_View, cM_Finding, c_Finding]
theorem cM_Way (l : List Way) : closeds (l.map encWay) = true := closeds_map encWay c_Way l
theorem la_Way (x : Way) : ldAgg (encWay x) 0 3 = some (encWay x) := _root_.id rfl
theorem sa_Way (x y : Way) : stAV (encWay x) 0 (encWay y) = some (encWay y) := _root_.id rfl
theorem sz_Way (c0 c1 c2 : AV) (x : Way) : stAV (.agg [c0, c1, c2]) 0 (encWay x) = some (encWay x) := _root_.id rfl
theorem sr_Way (c0 c1 c2 : AV) (x : Way) : stAV (encWay x) 0 (.agg [c0, c1, c2]) = some (.agg [c0, c1, c2]) := _root_.id rfl
theorem ce_Way (x : Way) : AV.cells (encWay x) = [int x.ino, int x.up, str x.name] := _root_.id rfl
theorem l1_Way_0 (x : Way) : ldOne (encWay x) 0 = some (int x.ino) := _root_.id rfl
theorem s1_Way_0 (x : Way) (v : Int) : stAV (encWay x) 0 (int v) = some (encWay { x with ino := v }) := _root_.id rfl
theorem p1_Way_0 (x : Way) : partO 0 (encWay x) = some (int x.ino) := _root_.id rfl
theorem l1_Way_1 (x : Way) : ldOne (encWay x) 1 = some (int x.up) := _root_.id rfl
theorem s1_Way_1 (x : Way) (v : Int) : stAV (encWay x) 1 (int v) = some (encWay { x with up := v }) := _root_.id rfl
theorem p1_Way_1 (x : Way) : partO 1 (encWay x) = some (int x.up) := _root_.id rfl
theorem l1_Way_2 (x : Way) : ldOne (encWay x) 2 = some (str x.name) := _root_.id rfl
theorem s1_Way_2 (x : Way) (v : ByteArray) : stAV (encWay x) 2 (str v) = some (encWay { x with name := v }) := _root_.id rfl
theorem p1_Way_2 (x : Way) : partO 2 (encWay x) = some (str x.name) := _root_.id rfl
structure Ar2_Int where
  c0 : Int
  c1 : Int
  deriving Inhabited, DecidableEq
def encAr2_Int (x : Ar2_Int) : AV := .agg [int x.c0, int x.c1]
theorem hs_Ar2_Int (x : Ar2_Int) : hasSize (encAr2_Int x) 2 = true := _root_.id rfl
theorem c_Ar2_Int (x : Ar2_Int) : closed (encAr2_Int x) = true := by simp [encAr2_Int, closed, closeds, cM_int, cM_bool, cM_str, cM_u8, cM_ik, cM_D, cM_LI, cM_LS, cM_runtime_boundsError, c_runtime_boundsError, cM_runtime_errorAddressString, c_runtime_errorAddressString, cM_Geo, c_Geo, cM_Entry, c_Entry, cM_Origin, c_Origin, cM_Attr, c_Attr, cM_Node, c_Node, cM_Branch, c_Branch, cM_Stack, c_Stack, cM_Place, c_Place, cM_View, c_View, cM_Finding, c_Finding, cM_Way, c_Way]
theorem cM_Ar2_Int (l : List Ar2_Int) : closeds (l.map encAr2_Int) = true := closeds_map encAr2_Int c_Ar2_Int l
theorem la_Ar2_Int (x : Ar2_Int) : ldAgg (encAr2_Int x) 0 2 = some (encAr2_Int x) := _root_.id rfl
theorem sa_Ar2_Int (x y : Ar2_Int) : stAV (encAr2_Int x) 0 (encAr2_Int y) = some (encAr2_Int y) := _root_.id rfl
theorem sz_Ar2_Int (c0 c1 : AV) (x : Ar2_Int) : stAV (.agg [c0, c1]) 0 (encAr2_Int x) = some (encAr2_Int x) := _root_.id rfl
theorem sr_Ar2_Int (c0 c1 : AV) (x : Ar2_Int) : stAV (encAr2_Int x) 0 (.agg [c0, c1]) = some (.agg [c0, c1]) := _root_.id rfl
theorem ce_Ar2_Int (x : Ar2_Int) : AV.cells (encAr2_Int x) = [int x.c0, int x.c1] := _root_.id rfl
theorem l1_Ar2_Int_0 (x : Ar2_Int) : ldOne (encAr2_Int x) 0 = some (int x.c0) := _root_.id rfl
theorem s1_Ar2_Int_0 (x : Ar2_Int) (v : Int) : stAV (encAr2_Int x) 0 (int v) = some (encAr2_Int { x with c0 := v }) := _root_.id rfl
theorem p1_Ar2_Int_0 (x : Ar2_Int) : partO 0 (encAr2_Int x) = some (int x.c0) := _root_.id rfl
theorem l1_Ar2_Int_1 (x : Ar2_Int) : ldOne (encAr2_Int x) 1 = some (int x.c1) := _root_.id rfl
theorem s1_Ar2_Int_1 (x : Ar2_Int) (v : Int) : stAV (encAr2_Int x) 1 (int v) = some (encAr2_Int { x with c1 := v }) := _root_.id rfl
theorem p1_Ar2_Int_1 (x : Ar2_Int) : partO 1 (encAr2_Int x) = some (int x.c1) := _root_.id rfl
structure unicode_utf8_acceptRange where
  lo : Int
  hi : Int
  deriving Inhabited, DecidableEq
def encunicode_utf8_acceptRange (x : unicode_utf8_acceptRange) : AV := .agg [(ik .u8) x.lo, (ik .u8) x.hi]
theorem c_unicode_utf8_acceptRange (x : unicode_utf8_acceptRange) : closed (encunicode_utf8_acceptRange x) = true := by simp [encunicode_utf8_acceptRange, closed, closeds, cM_int, cM_bool, cM_str, cM_u8, cM_ik, cM_D, cM_LI, cM_LS, cM_runtime_boundsError, c_runtime_boundsError, cM_runtime_errorAddressString, c_runtime_errorAddressString, cM_Geo, c_Geo, cM_Entry, c_Entry, cM_Origin, c_Origin, cM_Attr, c_Attr, cM_Node, c_Node, cM_Branch, c_Branch, cM_Stack, c_Stack, cM_Place, c_Place, cM_View, c_View, cM_Finding, c_Finding, cM_Way, c_Way, cM_Ar2_Int, c_Ar2_Int]
theorem cM_unicode_utf8_acceptRange (l : List unicode_utf8_acceptRange) : closeds (l.map encunicode_utf8_acceptRange) = true := closeds_map encunicode_utf8_acceptRange c_unicode_utf8_acceptRange l
end Go.Proofs.YtapdjibjnfeipaaGreatDoor.AL

