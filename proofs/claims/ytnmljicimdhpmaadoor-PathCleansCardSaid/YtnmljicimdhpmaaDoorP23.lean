/- A law of the given program is proved: part 23 of 36. -/
import Derived.Test.YtnmljicimdhpmaaDoorP22
set_option linter.all false
/- The program's data as Lean structures, as abstract values, and the rules of these; printed by gdata.py. -/
set_option linter.all false
namespace Go.Proofs.YtnmljicimdhpmaaDoor.AL
abbrev noBytes : ByteArray := ⟨#[]⟩
abbrev ik (k : IntKind) (n : Int) : AV := .val (.int k n)
abbrev sll {α : Type} (s : Nat) (f : α → AV) (l : List α) : AV := .sl s (l.map f)
abbrev encD (d : List UInt8) : AV := .sl 1 (d.map u8)
theorem cM_int (l : List Int) : closeds (l.map int) = true := closeds_map int (fun _ => _root_.id rfl) l
theorem cM_bool (l : List Bool) : closeds (l.map bool) = true := closeds_map bool (fun _ => _root_.id rfl) l
theorem cM_str (l : List ByteArray) : closeds (l.map str) = true := closeds_map str (fun _ => _root_.id rfl) l
theorem cM_u8 (l : List UInt8) : closeds (l.map u8) = true := closeds_map u8 (fun _ => _root_.id rfl) l
theorem cM_ik (k : IntKind) (l : List Int) : closeds (l.map (ik k)) = true := closeds_map (ik k) (fun _ => _root_.id rfl) l
theorem c_D (l : List UInt8) : closed (encD l) = true := cM_u8 l
theorem cM_D (l : List (List UInt8)) : closeds (l.map encD) = true := closeds_map encD c_D l
theorem cM_LI (l : List (List Int)) : closeds (l.map (sll 1 int)) = true := closeds_map (sll 1 int) (fun x => by simp only [closed]; exact cM_int x) l
theorem cM_LS (l : List (List ByteArray)) : closeds (l.map (sll 1 str)) = true := closeds_map (sll 1 str) (fun x => by simp only [closed]; exact cM_str x) l
structure runtime_boundsError where
  x : Int
  y : Int
  signed : Bool
  code : Int
  deriving Inhabited, DecidableEq
def encruntime_boundsError (x : runtime_boundsError) : AV := .agg [int x.x, int x.y, bool x.signed, (ik .u8) x.code]
theorem c_runtime_boundsError (x : runtime_boundsError) : closed (encruntime_boundsError x) = true := by simp [encruntime_boundsError, closed, closeds, cM_int, cM_bool, cM_str, cM_u8, cM_ik, cM_D, cM_LI, cM_LS]
theorem cM_runtime_boundsError (l : List runtime_boundsError) : closeds (l.map encruntime_boundsError) = true := closeds_map encruntime_boundsError c_runtime_boundsError l
structure runtime_errorAddressString where
  msg : ByteArray
  addr : Int
  deriving Inhabited, DecidableEq
def encruntime_errorAddressString (x : runtime_errorAddressString) : AV := .agg [str x.msg, (ik .u64) x.addr]
theorem c_runtime_errorAddressString (x : runtime_errorAddressString) : closed (encruntime_errorAddressString x) = true := by simp [encruntime_errorAddressString, closed, closeds, cM_int, cM_bool, cM_str, cM_u8, cM_ik, cM_D, cM_LI, cM_LS, cM_runtime_boundsError, c_runtime_boundsError]
theorem cM_runtime_errorAddressString (l : List runtime_errorAddressString) : closeds (l.map encruntime_errorAddressString) = true := closeds_map encruntime_errorAddressString c_runtime_errorAddressString l
structure unicode_utf8_acceptRange where
  lo : Int
  hi : Int
  deriving Inhabited, DecidableEq
def encunicode_utf8_acceptRange (x : unicode_utf8_acceptRange) : AV := .agg [(ik .u8) x.lo, (ik .u8) x.hi]
theorem c_unicode_utf8_acceptRange (x : unicode_utf8_acceptRange) : closed (encunicode_utf8_acceptRange x) = true := by simp [encunicode_utf8_acceptRange, closed, closeds, cM_int, cM_bool, cM_str, cM_u8, cM_ik, cM_D, cM_LI, cM_LS, cM_runtime_boundsError, c_runtime_boundsError, cM_runtime_errorAddressString, c_runtime_errorAddressString]
theorem cM_unicode_utf8_acceptRange (l : List unicode_utf8_acceptRange) : closeds (l.map encunicode_utf8_acceptRange) = true := closeds_map encunicode_utf8_acceptRange c_unicode_utf8_acceptRange l
end Go.Proofs.YtnmljicimdhpmaaDoor.AL

