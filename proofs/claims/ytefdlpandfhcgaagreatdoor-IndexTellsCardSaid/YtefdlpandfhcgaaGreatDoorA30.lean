/- A law of the given program is proved: part 30 of 50. -/
import Derived.Test.YtefdlpandfhcgaaGreatDoorRows
import Derived.Test.YtefdlpandfhcgaaGreatDoorTie
import Derived.Test.YtefdlpandfhcgaaGreatDoorCards
import Derived.PinnedBridge
import Derived.Lay
import Derived.SevenTiedAt
import Derived.Lib.SplitLaws
import Derived.Lib.IndexMore
import Derived.Test.YtefdlpandfhcgaaGreatDoorA29
set_option linter.all false
/- From the contract of the law to the given statement, a tied card: the frame, printed by lawgend.py. -/
set_option linter.all false
namespace Go.Proofs.YtefdlpandfhcgaaGreatDoor
open AL Go Go.RowKit Go.ChangeShapes Go.WideShapes Go.ChangeAt
theorem xpt : ownKnob Tryz.prog.godebug = none := by kernel_rfl
theorem xch : laidOutB Tryz.prog = true := by kernel_rfl
set_option maxRecDepth 100000 in
theorem x6p (h : ∀ y0 : AL.Stack, ∀ y1 : AL.Entry, ∀ y2 : Int, Stack.fine y0 → Entry.fine y1 → (fun n : Int => IntKind.i64.min ≤ n ∧ n ≤ IntKind.i64.max) y2 → Ok Tryz.prog 3 [xnb y0, xd y1, int y2] (bool true)) (os : Os) (started : os.Started) (H : Type) (enc : TypeId × Value → H) :
    ReturnsInHanded {} Tryz.checked os 3 .any (fun w args => (Rows.indexTellsSpec.pre enc Tryz.prog Tryz.f3 [] false w args ∧ laidMetH Tryz.prog Rows.indexTellsRow.laid w) ∧ sizedMet enc Tryz.prog Tryz.f3 (OpenSpec.ofChange Rows.indexTellsSpec) false w args) (Rows.indexTellsSpec.post enc Tryz.prog Tryz.f3 false true false false) := by
  refine xut (C := Tryz.checked) (X := fun w _ => laidMetH Tryz.prog Rows.indexTellsRow.laid w) (fun _ _ _ hh h => h.of_heap hh) xpt started (by kernel_rfl) Tryz.func3
    (ChangeSpec.witness_shaped (enc := enc) (C := Tryz.checked) (os := os) (X := fun w _ => laidMetH Tryz.prog Rows.indexTellsRow.laid w) false (World.laidAll Tryz.prog os Rows.indexTellsRow.laid) #[.agg #[.int .i64 0, .int .i64 0, .int .i64 0, .int .i64 0, .slice none 0 0, .slice none 0 0], .agg #[.int .i64 0, .int .i64 0, .string ⟨#[]⟩], .int .i64 0] 8 (World.laidAll_os _ _ _)
      (World.shaped_of_ZipB (by kernel_rfl) (by kernel_rfl)) (by kernel_rfl) (by kernel_rfl) (by kernel_rfl)
      (by rw [MakeChecks.laidMetH_plain _ _ _ (by kernel_rfl)]; exact laidMet_laidAll _ (by kernel_rfl) (by kernel_rfl))) ?_
  intro W base args ds gs before hval0 hW hcnd hwt hL hsh _
  have hval : ∀ (j : Nat) t v, Tryz.f3.params[j]? = some t → args[j]? = some v → Value.okWide Tryz.prog W .any base t v := hval0
  have hgw : GW W := x7z hsh hL
  have hW' := hW
  obtain ⟨p, q, hA0, hV, rfl, hfz, hnd⟩ := hW
  have hA : DataW.TrodAll enc Tryz.prog W 0 (fun _ => true) true [29, 31, 3] args.toList ds p := hA0
  have hval : ∀ (j : Nat) t v, (#[29, 31, 3] : Array Nat)[j]? = some t → args[j]? = some v → Value.okWide Tryz.prog W .any base t v := hval
  obtain ⟨v0, vs0, d0, ds0, p0, q0, hargs, rfl, rfl, h0, r0⟩ := trodAll_cons hA
  obtain ⟨v1, vs1, d1, ds1, p1, q1, rfl, rfl, rfl, h1, r1⟩ := trodAll_cons r0
  obtain ⟨v2, vs2, d2, ds2, p2, q2, rfl, rfl, rfl, h2, r2⟩ := trodAll_cons r1
  obtain ⟨rfl, rfl, rfl⟩ := trodAll_nil r2
  obtain rfl : args = #[v0, v1, v2] := by cases args; simp_all
  obtain ⟨rfl, rfl⟩ := trodVars_none hV
  have lt0 : ∀ x ∈ p0, x.block < W.heap.size := by obtain ⟨m, hm⟩ := h0; exact DataW.trod_lt m _ _ _ hm
  obtain ⟨cs0, hv0, _⟩ := okWide_struct (xam xvk).choose_spec (hval 0 29 v0 rfl rfl)
  subst hv0
  obtain ⟨x0, w0, o0⟩ := xbz rd_29 (fun _ => rfl) h0
  have lt1 : ∀ x ∈ p1, x.block < W.heap.size := by obtain ⟨m, hm⟩ := h1; exact DataW.trod_lt m _ _ _ hm
  obtain ⟨cs1, hv1, _⟩ := okWide_struct (xam x3g).choose_spec (hval 1 31 v1 rfl rfl)
  subst hv1
  obtain ⟨x1, w1, o1⟩ := xbz rd_31 (fun _ => rfl) h1
  have lt2 : ∀ x ∈ p2, x.block < W.heap.size := by obtain ⟨m, hm⟩ := h2; exact DataW.trod_lt m _ _ _ hm
  obtain ⟨n2, rfl, rfl, rfl, _⟩ := open_int (show Program.underlying Tryz.prog 3 = some (.int .i64) by kernel_rfl) (hval 2 3 v2 rfl rfl) h2
  obtain ⟨x2, w2, o2⟩ := xn8 rd_3 rfl h2
  have hvr : VReps (Ew W) [xnb x0, xd x1, int x2] [_, _, _] := .cons w0 (.cons w1 (.cons w2 (.nil)))
  refine (x22 hgw (h x0 x1 x2 o0 o1 o2) hvr).mono fun e W' ⟨he, bel⟩ => ?_
  subst he
  exact ⟨_, rfl, _, _, _, [], _, [], hW', trodAll_mk1 (shut_bool (show Program.underlying Tryz.prog 4 = some .bool by kernel_rfl) _), (trodAll_cons_mk (Below.trod xch (by kernel_rfl) (of_decide_eq_true (by kernel_rfl)) h0 bel lt0) (trodAll_cons_mk (Below.trod xch (by kernel_rfl) (of_decide_eq_true (by kernel_rfl)) h1 bel lt1) (trodAll_cons_mk (Below.trod xch (by kernel_rfl) (of_decide_eq_true (by kernel_rfl)) h2 bel lt2) trodAll_mk0))), rfl, bel.frame _, fun h => by cases h⟩
theorem xsn (h : ∀ y0 : AL.Stack, ∀ y1 : AL.Entry, ∀ y2 : Int, Stack.fine y0 → Entry.fine y1 → (fun n : Int => IntKind.i64.min ≤ n ∧ n ≤ IntKind.i64.max) y2 → Ok Tryz.prog 3 [xnb y0, xd y1, int y2] (bool true)) : Rows.IndexTellsSaid :=
  OpenClaim.holds_of_wide 3 Tryz.f3 rfl rfl rfl rfl rfl rfl rfl ⟨rfl, rfl, rfl, rfl, rfl⟩ rfl rfl rfl rfl rfl (by kernel_rfl) Tryz.func3 (by kernel_rfl)
    (of_decide_eq_true (by kernel_rfl)) (by unfold Func.isWrapper; first | (rw [if_pos (by decide +kernel)]; kernel_rfl) | (rw [if_neg (by decide +kernel)]; exact ⟨rfl, rfl⟩))
    (fun os started H enc _ => x6p h os started H enc)
theorem xyn (hs : Rows.IndexTellsSaid) : Rows.IndexTellsCardSaid :=
  Claim7.holds_tied_plain_at .later [] [.data, .data, .data, .sentinel, .sentinel] true (true, "35201e6eeba2db8990a533fcdbc32a58bfd5dba2fc005aa8669ce250d98d8c8a") true hs (fun _ h => by cases h) (by kernel_rfl) (fun _ h => by cases h) indexTells_row_tie rfl ⟨rfl, rfl⟩ (by kernel_rfl) rfl
    (fun f fn hf hfn => by
      obtain rfl : f = 3 := Option.some.inj ((show Tryz.prog.funcNamed "craquelure/craquelurelaw23.IndexTells" = some 3 by kernel_rfl).symm.trans hf) |>.symm
      obtain rfl : fn = Tryz.f3 := (Option.some.inj (Tryz.func3.symm.trans hfn)).symm
      exact ⟨by kernel_rfl, fun j t ht => by
        have hm : t ∈ [29, 31, 3] := by have := Array.mem_of_getElem? (xs := (#[29, 31, 3] : Array Nat)) (show (#[29, 31, 3] : Array Nat)[j]? = some t from ht); simpa using this
        have hall : ([29, 31, 3].all fun u => !Tryz.prog.wantsStandIn u) = true := by kernel_rfl
        exact (show Tryz.prog.wantsStandIn t = false by simpa using List.all_eq_true.1 hall t hm)⟩)
    (by kernel_rfl)
end Go.Proofs.YtefdlpandfhcgaaGreatDoor

/- Texts cut at a byte. -/
set_option linter.all false
namespace Go.Proofs.YtefdlpandfhcgaaGreatDoor.AL
open Go Go.Proofs
def bB (l : List UInt8) : ByteArray := ⟨l.toArray⟩
theorem bB_of (s : ByteArray) : bB s.data.toList = s := rfl
theorem bB_app (a b : List UInt8) : bB a ++ bB b = bB (a ++ b) := by
  apply ByteArray.ext
  simp [bB]
theorem xqd (a : List UInt8) : (bB a).size = a.length := by simp [bB, ByteArray.size]
theorem bB_inj {a b : List UInt8} (h : bB a = bB b) : a = b := by
  have := congrArg (fun x : ByteArray => x.data.toList) h
  simpa [bB] using this
theorem bB_eq (s : ByteArray) : ∃ l, s = bB l := ⟨s.data.toList, (bB_of s).symm⟩
end Go.Proofs.YtefdlpandfhcgaaGreatDoor.AL

