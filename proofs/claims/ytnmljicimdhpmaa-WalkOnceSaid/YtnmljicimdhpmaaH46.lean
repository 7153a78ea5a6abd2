/- A law of the given program is proved: part 46 of 49. -/
import Derived.Shelf.Strings.Builder1
import Derived.Shelf.Strings.Builder2
import Derived.Shelf.Strings.OnBuilder
import Derived.Shelf.Strings.BuilderF
import Derived.Shelf.Strings.BuilderK
import Derived.Shelf.Strings.Builder2Cap
import Derived.Shelf.Strings.BuilderCap
import Derived.Shelf.Slices.Equal
import Derived.Ground.Names2Prog
import Derived.Shelf.Slices.ReverseS
import Derived.Shelf.Slices.Clone
import Derived.Shelf.Slices.Cells
import Derived.Ground.SlgnProg
import Derived.Shelf.SlicesE.Clone
import Derived.Test.YtnmljicimdhpmaaProg
import Derived.Test.YtnmljicimdhpmaaH45
set_option linter.all false
/- The contracts of library functions, laid at this seat by the kit's lay-shelf and lay-plain. -/
set_option linter.all false
namespace Go.Proofs
open Go.Shelf
def Try.lays156_ren : Go.Shelf.Ren := ⟨fun | 156 => 99 | 165 => 106 | 166 => 107 | 169 => 108 | 240 => 110 | 241 => 111 | 276 => 112 | 277 => 113 | n => n, fun | 31 => 60 | 9 => 9 | 3 => 3 | 4 => 4 | 0 => 0 | 20 => 20 | 72 => 142 | 76 => 145 | 70 => 140 | 37 => 39 | 75 => 144 | 127 => 148 | 164 => 149 | 5 => 5 | 80 => 147 | n => n, fun | n => n⟩
theorem Try.lays156 : Go.Proofs.Lays.n156 Try.prog Try.lays156_ren := {
  mixed := by kernel_rfl
  f156 := Try.func99.trans (congrArg some (by kernel_rfl))
  f165 := Try.func106.trans (congrArg some (by kernel_rfl))
  f166 := Try.func107.trans (congrArg some (by kernel_rfl))
  f169 := Try.func108.trans (congrArg some (by kernel_rfl))
  f240 := Try.func110.trans (congrArg some (by kernel_rfl))
  f241 := Try.func111.trans (congrArg some (by kernel_rfl))
  f276 := Try.func112.trans (congrArg some (by kernel_rfl))
  f277 := Try.func113.trans (congrArg some (by kernel_rfl))
  t0 := Try.underlying0
  a0 := Try.isAgg0
  z0 := Try.sizeOf0
  v0 := Try.zeroValue0
  t3 := Try.underlying3
  a3 := Try.isAgg3
  z3 := Try.sizeOf3
  v3 := Try.zeroValue3
  t4 := Try.underlying4
  a4 := Try.isAgg4
  z4 := Try.sizeOf4
  v4 := Try.zeroValue4
  t9 := Try.underlying9
  a9 := Try.isAgg9
  z9 := Try.sizeOf9
  v9 := Try.zeroValue9
  t20 := Try.underlying20
  a20 := Try.isAgg20
  z20 := Try.sizeOf20
  v20 := Try.zeroValue20
  t31 := Try.underlying60
  a31 := Try.isAgg60
  z31 := Try.sizeOf60
  v31 := Try.zeroValue60
  t37 := Try.underlying39
  a37 := Try.isAgg39
  z37 := Try.sizeOf39
  v37 := Try.zeroValue39
  t70 := Try.underlying140
  a70 := Try.isAgg140
  z70 := Try.sizeOf140
  v70 := Try.zeroValue140
  t72 := Try.underlying142
  a72 := Try.isAgg142
  z72 := Try.sizeOf142
  v72 := Try.zeroValue142
  t75 := Try.underlying144
  a75 := Try.isAgg144
  z75 := Try.sizeOf144
  v75 := Try.zeroValue144
  t76 := Try.underlying145
  a76 := Try.isAgg145
  z76 := Try.sizeOf145
  v76 := Try.zeroValue145
  t127 := Try.underlying148
  a127 := Try.isAgg148
  z127 := Try.sizeOf148
  v127 := Try.zeroValue148
  t164 := Try.underlying149
  a164 := Try.isAgg149
  z164 := Try.sizeOf149
  v164 := Try.zeroValue149 }
theorem Try.Builder_Extra_156 : Builder.Extra Try.prog Try.lays156_ren := {
  sizeBuilder := by kernel_rfl
  liesBuilder := by kernel_rfl
  t5 := Try.underlying5
  a5 := Try.isAgg5
  z5 := Try.sizeOf5
  v5 := Try.zeroValue5
  infoByte := by kernel_rfl
  cellsByte := by kernel_rfl
  sizeByte := by kernel_rfl
  neB5 := by decide }
open Go.RowKit in
theorem Try.strings_Join_none (a : Option Addr) (c : Nat) (sep : ByteArray) (w : World) :
    Calls Try.prog 99 #[.slice a 0 c, .string sep] w fun e w' => e = .returned (.string ⟨#[]⟩) ∧ w' = w := Any.strings_Join_none Try.lays156 Try.Builder_Extra_156 a c sep w
open Go.RowKit in
theorem Try.strings_Join (bk o c : Nat) (xs : List ByteArray) (sep : ByteArray) (w : World) (hcells : ∀ (j : Nat) x, xs[j]? = some x → w.cell? ⟨bk, o + j, none⟩ = some (.string x)) (hbk : bk < w.heap.size) (hN : xs.length ≤ 140737488355328) (hcap : xs.length ≤ c) (hlen : (Lib.join (xs.map (·.data.toList)) sep.data.toList).length ≤ 140737488355328) :
    Calls Try.prog 99 #[.slice (some ⟨bk, o, none⟩) xs.length c, .string sep] w fun e w' => e = .returned (.string ⟨(Lib.join (xs.map (·.data.toList)) sep.data.toList).toArray⟩) ∧ Below w.heap.size w w' := Any.strings_Join Try.lays156 Try.Builder_Extra_156 bk o c xs sep w hcells hbk hN hcap hlen
end Go.Proofs

/- Functions of the library by the kit's contracts: strings.Join. -/
set_option linter.all false
namespace Go.Proofs.Ytnmljicimdhpmaa.AL
open Go Go.Proofs Go.RowKit
/-- The cells of a row of strings. -/
theorem strs_at {Z : Nat → Prop} {w : World} (hZ : ZG Z w) {l : List ByteArray} {u : Value} (h : VRep (Ec Z w) (.sl 1 (l.map str)) u) :
    ∃ A cap, u = .slice A l.length cap ∧ l.length ≤ cap ∧ (l ≠ [] → ∃ b o, A = some ⟨b, o, none⟩ ∧ b < w.heap.size ∧ ∀ (j : Nat) x, l[j]? = some x → w.cell? ⟨b, o + j, none⟩ = some (.string x)) := by
  simp only [VRep] at h
  obtain ⟨us, A, cap, h1, h2, h3, h4⟩ := h
  refine ⟨A, cap, by simpa using h2, by simpa using h3, fun hne => ?_⟩
  have hl := h1.length
  rcases h4 with h4 | ⟨b, o, rfl, hz, h5⟩
  · rw [h4] at hl
    simp at hl
    exact absurd (List.eq_nil_of_length_eq_zero hl.symm) hne
  · refine ⟨b, o, rfl, hZ.zlt b hz, fun j x hx => ?_⟩
    obtain ⟨u, hu, hr⟩ := h1.get j (str x) (by simp [hx])
    simp only [VRep] at hr
    subst hr
    obtain ⟨_, _, hc⟩ := h5 j _ hu
    have := hc 0 (.string x) rfl
    simpa [Ec] using this
def joinM (l : List ByteArray) (sep : ByteArray) : Option ByteArray :=
  (ck (l.length ≤ 140737488355328 ∧ (Lib.join (l.map (·.data.toList)) sep.data.toList).length ≤ 140737488355328)).bind fun _ => some ⟨(Lib.join (l.map (·.data.toList)) sep.data.toList).toArray⟩
def m_strings_Join (l : List ByteArray) (sep : ByteArray) : Option ByteArray := joinM l sep
theorem okn_strings_Join (l : List ByteArray) (sep r : ByteArray) (h : m_strings_Join l sep = some r) : OkN Try.prog 99 [.sl 1 (l.map str), str sep] (str r) := by
  unfold m_strings_Join joinM at h
  obtain ⟨⟨h1, h2⟩, h3⟩ := ckE h
  obtain rfl := Option.some.inj h3
  refine ⟨by kernel_rfl, fun Z w vals hZ hv => ?_⟩
  simp only [VReps] at hv
  obtain ⟨u, us, g1, ⟨v, vs, g2, rfl, rfl⟩, rfl⟩ := hv
  simp only [VRep] at g2
  subst g2
  obtain ⟨A, cap, rfl, hc, hx⟩ := strs_at hZ g1
  by_cases hne : l = []
  · subst hne
    refine (Try.strings_Join_none A cap sep w).mono ?_
    rintro e w' ⟨rfl, rfl⟩
    exact ⟨_, rfl, Below.refl _ _, by simp only [VRep]; rfl⟩
  · obtain ⟨b, o, rfl, hb, hcell⟩ := hx hne
    refine (Try.strings_Join b o cap l sep w hcell hb h1 hc h2).mono ?_
    rintro e w' ⟨rfl, hbl⟩
    exact ⟨_, rfl, hbl, by simp only [VRep]⟩
end Go.Proofs.Ytnmljicimdhpmaa.AL

