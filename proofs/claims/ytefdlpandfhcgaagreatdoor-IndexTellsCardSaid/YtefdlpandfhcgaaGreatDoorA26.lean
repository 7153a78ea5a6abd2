/- A law of the given program is proved: part 26 of 50. -/
import Derived.Test.YtefdlpandfhcgaaGreatDoorRows
import Derived.Lib.LaidTab
import Derived.Stop.LaidErr
import Derived.MakeChecks
import Derived.Test.YtefdlpandfhcgaaGreatDoorA25
set_option linter.all false
/- What a world knows of the program's own cells where the row lists bits' table and strconv's errors. -/
set_option linter.all false
namespace Go.Proofs.YtefdlpandfhcgaaGreatDoor.AL
open Go Go.Proofs Go.RowKit
theorem xjl {P : Program} {W : World} : ∀ (k : Nat) {l : List (String × DataW Unit)}, laidMet P l W → laidMet P (l.drop k) W
  | 0, _, h => h
  | k + 1, [], h => h
  | k + 1, x :: l, h => xjl k (laidMet.tail h)
theorem gb_of {W : World} {g : Nat} {k : IntKind} {zs : List Int} {name : String} (hg : Program.globalNamed Tryz.prog name = some g) (h : Lib.TabIs Tryz.prog W name k zs) : GB W g (zs.map fun z => Value.int k z).toArray := by
  unfold Lib.TabIs World.var? at h
  rw [hg] at h
  simp only [Option.bind_some] at h
  split at h
  · rename_i cs T fr hb
    injection h with h
    subst h
    exact ⟨T, fr, hb⟩
  · cases h
theorem starE : "*" ++ "errors.errorString" = "*errors.errorString" := by decide
theorem hrowE (u : TypeId) (h : Program.typeName? Tryz.prog 3 u = some "*errors.errorString") : u = 153 :=
  typeName_ptr_named (nm := "errors.errorString") (by rw [starE]; kernel_rfl) (by kernel_rfl) (by decide) u (by rw [starE]; exact h)
def isIf : Option TypeDesc → Bool
  | some (.interface _) => true
  | _ => false
theorem x39 {o : Option TypeDesc} (h : isIf o = true) : ∃ ms, o = some (.interface ms) := by
  unfold isIf at h
  split at h
  · exact ⟨_, rfl⟩
  · cases h
theorem uErr : ∃ ms, Program.underlying Tryz.prog 98 = some (.interface ms) := x39 (by kernel_rfl)
def oneF (t : TypeId) : Option TypeDesc → Bool
  | some (.struct fs) => match fs.toList with
    | [f] => f.type == t && f.offset == 0
    | _ => false
  | _ => false
theorem x17 {t : TypeId} {o : Option TypeDesc} (h : oneF t o = true) : ∃ f : Field, o = some (.struct #[f]) ∧ f.type = t ∧ f.offset = 0 := by
  unfold oneF at h
  split at h
  · rename_i fs
    split at h
    · rename_i f hf
      simp only [Bool.and_eq_true, beq_iff_eq] at h
      refine ⟨f, ?_, h.1, h.2⟩
      obtain ⟨l⟩ := fs
      simp only at hf
      rw [hf]
    · cases h
  · cases h
theorem uStr : ∃ f : Field, Program.underlying Tryz.prog 155 = some (.struct #[f]) ∧ f.type = 9 ∧ f.offset = 0 := x17 (by kernel_rfl)
set_option maxRecDepth 100000 in
theorem x7z {W : World} (hsh : W.ShapedOpen Tryz.prog) (hL : laidMetH Tryz.prog Rows.indexTellsRow.laid W) : GW W := by
  rw [MakeChecks.laidMetH_plain _ _ _ (by kernel_rfl)] at hL
  have t5 : Lib.TabIs Tryz.prog W "math/bits.deBruijn64tab" .u8 (Lib.deBruijn64tab.map Int.ofNat) := Lib.tabIs_of_head (g := 5) (t := 167) (e := 5) (n := 64) (rest := Rows.indexTellsRow.laid.drop 2) (by kernel_rfl) (by kernel_rfl) (by kernel_rfl) (by kernel_rfl) (by kernel_rfl) (by kernel_rfl) (xjl 1 hL)
  obtain ⟨ms, hms⟩ := uErr
  obtain ⟨fe, hfs, hft, hfo⟩ := uStr
  have e4 : GC W 1 (fun v => v = .nilIface ∨ ∃ t p, v = .iface t p) := by
    obtain ⟨a, s, hv, _⟩ := laid_sentinel (n := "strconv.ErrRange") (nm := "*errors.errorString") (g := 1) (ti := 98) (tp := 153) (te := 155) (ts := 9) (xjl 3 hL) (by kernel_rfl) (by kernel_rfl) hms hrowE (by kernel_rfl) hfs hft hfo (by kernel_rfl) (by kernel_rfl) (by kernel_rfl)
    exact ⟨_, World.var?_cell (by kernel_rfl) hv 0, .inr ⟨_, _, rfl⟩⟩
  have e3 : GC W 0 (fun v => v = .nilIface ∨ ∃ t p, v = .iface t p) := by
    obtain ⟨a, s, hv, _⟩ := laid_sentinel (n := "strconv.ErrSyntax") (nm := "*errors.errorString") (g := 0) (ti := 98) (tp := 153) (te := 155) (ts := 9) (xjl 4 hL) (by kernel_rfl) (by kernel_rfl) hms hrowE (by kernel_rfl) hfs hft hfo (by kernel_rfl) (by kernel_rfl) (by kernel_rfl)
    exact ⟨_, World.var?_cell (by kernel_rfl) hv 0, .inr ⟨_, _, rfl⟩⟩
  obtain ⟨T, fr, h5⟩ := gb_of (g := 5) (by kernel_rfl) t5
  have hlt := (Array.getElem?_eq_some_iff.1 h5).1
  exact ⟨hlt, ⟨T, fr, h5⟩, e3, e4⟩
end Go.Proofs.YtefdlpandfhcgaaGreatDoor.AL

