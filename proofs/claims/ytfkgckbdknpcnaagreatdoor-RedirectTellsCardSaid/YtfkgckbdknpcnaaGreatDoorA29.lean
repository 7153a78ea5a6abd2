/- A law of the given program is proved: part 29 of 51. -/
import Derived.Test.YtfkgckbdknpcnaaGreatDoorRows
import Derived.Test.YtfkgckbdknpcnaaGreatDoorTie
import Derived.Test.YtfkgckbdknpcnaaGreatDoorCards
import Derived.PinnedBridge
import Derived.Lay
import Derived.SevenTiedAt
import Derived.Test.YtfkgckbdknpcnaaGreatDoorA28
set_option linter.all false
/- From the contract of the law to the given statement, a tied card: the frame, printed by lawgend.py. -/
set_option linter.all false
namespace Go.Proofs.YtfkgckbdknpcnaaGreatDoor
open AL Go Go.RowKit Go.ChangeShapes Go.WideShapes Go.ChangeAt
theorem x8u : ownKnob Tryz.prog.godebug = none := by kernel_rfl
theorem xqh : laidOutB Tryz.prog = true := by kernel_rfl
set_option maxRecDepth 100000 in
theorem xrq (h : ∀ y0 : AL.Stack, ∀ y1 : List ByteArray, ∀ y2 : ByteArray, Stack.fine y0 → (fun l : List ByteArray => l.length ≤ maxLen ∧ ∀ x ∈ l, (fun s : ByteArray => s.size ≤ maxLen) x) y1 → (fun s : ByteArray => s.size ≤ maxLen) y2 → Ok Tryz.prog 3 [xl y0, (sll 1 str) y1, str y2] (bool true)) (os : Os) (started : os.Started) (H : Type) (enc : TypeId × Value → H) :
    ReturnsInHanded {} Tryz.checked os 3 .any (fun w args => (Rows.redirectTellsSpec.pre enc Tryz.prog Tryz.f3 [] false w args ∧ laidMetH Tryz.prog Rows.redirectTellsRow.laid w) ∧ sizedMet enc Tryz.prog Tryz.f3 (OpenSpec.ofChange Rows.redirectTellsSpec) false w args) (Rows.redirectTellsSpec.post enc Tryz.prog Tryz.f3 false true false false) := by
  refine xkz (C := Tryz.checked) (X := fun w _ => laidMetH Tryz.prog Rows.redirectTellsRow.laid w) (fun _ _ _ hh h => h.of_heap hh) x8u started (by kernel_rfl) Tryz.func3
    (ChangeSpec.witness_shaped (enc := enc) (C := Tryz.checked) (os := os) (X := fun w _ => laidMetH Tryz.prog Rows.redirectTellsRow.laid w) false (World.laidAll Tryz.prog os Rows.redirectTellsRow.laid) #[.agg #[.int .i64 0, .int .i64 0, .int .i64 0, .int .i64 0, .slice none 0 0, .slice none 0 0], .slice none 0 0, .string ⟨#[]⟩] 8 (World.laidAll_os _ _ _)
      (World.shaped_of_ZipB (by kernel_rfl) (by kernel_rfl)) (by kernel_rfl) (by kernel_rfl) (by kernel_rfl)
      (by rw [MakeChecks.laidMetH_plain _ _ _ (by kernel_rfl)]; exact laidMet_laidAll _ (by kernel_rfl) (by kernel_rfl))) ?_
  intro W base args ds gs before hval0 hW hcnd hwt hL hsh _
  have hval : ∀ (j : Nat) t v, Tryz.f3.params[j]? = some t → args[j]? = some v → Value.okWide Tryz.prog W .any base t v := hval0
  have hgw : GW W := xy4 hsh
  have hW' := hW
  obtain ⟨p, q, hA0, hV, rfl, hfz, hnd⟩ := hW
  have hA : DataW.TrodAll enc Tryz.prog W 0 (fun _ => true) true [29, 30, 9] args.toList ds p := hA0
  have hval : ∀ (j : Nat) t v, (#[29, 30, 9] : Array Nat)[j]? = some t → args[j]? = some v → Value.okWide Tryz.prog W .any base t v := hval
  obtain ⟨v0, vs0, d0, ds0, p0, q0, hargs, rfl, rfl, h0, r0⟩ := trodAll_cons hA
  obtain ⟨v1, vs1, d1, ds1, p1, q1, rfl, rfl, rfl, h1, r1⟩ := trodAll_cons r0
  obtain ⟨v2, vs2, d2, ds2, p2, q2, rfl, rfl, rfl, h2, r2⟩ := trodAll_cons r1
  obtain ⟨rfl, rfl, rfl⟩ := trodAll_nil r2
  obtain rfl : args = #[v0, v1, v2] := by cases args; simp_all
  obtain ⟨rfl, rfl⟩ := trodVars_none hV
  have lt0 : ∀ x ∈ p0, x.block < W.heap.size := by obtain ⟨m, hm⟩ := h0; exact DataW.trod_lt m _ _ _ hm
  obtain ⟨cs0, hv0, _⟩ := okWide_struct (xhy x2n).choose_spec (hval 0 29 v0 rfl rfl)
  subst hv0
  obtain ⟨x0, w0, o0⟩ := xwhb rd_29 (fun _ => rfl) h0
  have lt1 : ∀ x ∈ p1, x.block < W.heap.size := by obtain ⟨m, hm⟩ := h1; exact DataW.trod_lt m _ _ _ hm
  obtain ⟨a1, l1, c1, hv1⟩ := okWide_slice (x7c xbe) (hval 1 30 v1 rfl rfl)
  subst hv1
  obtain ⟨x1, w1, o1⟩ := xj6 rd_30 rfl h1
  have lt2 : ∀ x ∈ p2, x.block < W.heap.size := by obtain ⟨m, hm⟩ := h2; exact DataW.trod_lt m _ _ _ hm
  obtain ⟨n2, rfl, rfl, rfl, _⟩ := Go.ChangeMaps.open_string (show Program.underlying Tryz.prog 9 = some .string by kernel_rfl) (hval 2 9 v2 rfl rfl) h2
  obtain ⟨x2, w2, o2⟩ := xj6 rd_9 rfl h2
  have hvr : VReps (Ew W) [xl x0, (sll 1 str) x1, str x2] [_, _, _] := .cons w0 (.cons w1 (.cons w2 (.nil)))
  refine (xvab hgw (h x0 x1 x2 o0 o1 o2) hvr).mono fun e W' ⟨he, bel⟩ => ?_
  subst he
  exact ⟨_, rfl, _, _, _, [], _, [], hW', trodAll_mk1 (shut_bool (show Program.underlying Tryz.prog 4 = some .bool by kernel_rfl) _), (trodAll_cons_mk (Below.trod xqh (by kernel_rfl) (of_decide_eq_true (by kernel_rfl)) h0 bel lt0) (trodAll_cons_mk (Below.trod xqh (by kernel_rfl) (of_decide_eq_true (by kernel_rfl)) h1 bel lt1) (trodAll_cons_mk (Below.trod xqh (by kernel_rfl) (of_decide_eq_true (by kernel_rfl)) h2 bel lt2) trodAll_mk0))), rfl, bel.frame _, fun h => by cases h⟩
theorem x1o (h : ∀ y0 : AL.Stack, ∀ y1 : List ByteArray, ∀ y2 : ByteArray, Stack.fine y0 → (fun l : List ByteArray => l.length ≤ maxLen ∧ ∀ x ∈ l, (fun s : ByteArray => s.size ≤ maxLen) x) y1 → (fun s : ByteArray => s.size ≤ maxLen) y2 → Ok Tryz.prog 3 [xl y0, (sll 1 str) y1, str y2] (bool true)) : Rows.RedirectTellsSaid :=
  OpenClaim.holds_of_wide 3 Tryz.f3 rfl rfl rfl rfl rfl rfl rfl ⟨rfl, rfl, rfl, rfl, rfl⟩ rfl rfl rfl rfl rfl (by kernel_rfl) Tryz.func3 (by kernel_rfl)
    (of_decide_eq_true (by kernel_rfl)) (by unfold Func.isWrapper; first | (rw [if_pos (by decide +kernel)]; kernel_rfl) | (rw [if_neg (by decide +kernel)]; exact ⟨rfl, rfl⟩))
    (fun os started H enc _ => xrq h os started H enc)
theorem xop (hs : Rows.RedirectTellsSaid) : Rows.RedirectTellsCardSaid :=
  Claim7.holds_tied_plain_at .later [] [.data, .pinned] true (true, "abee08a699587a74b8e82f56bdb4699d1bc8c5ea555d1161be8c6e1bab10e6b2") false hs (fun _ h => by cases h) (by kernel_rfl) (fun _ h => by cases h) redirectTells_row_tie rfl ⟨rfl, rfl⟩ (by kernel_rfl) rfl
    (fun f fn hf hfn => by
      obtain rfl : f = 3 := Option.some.inj ((show Tryz.prog.funcNamed "craquelure/craquelurelaw21.RedirectTells" = some 3 by kernel_rfl).symm.trans hf) |>.symm
      obtain rfl : fn = Tryz.f3 := (Option.some.inj (Tryz.func3.symm.trans hfn)).symm
      exact ⟨by kernel_rfl, fun j t ht => by
        have hm : t ∈ [29, 30, 9] := by have := Array.mem_of_getElem? (xs := (#[29, 30, 9] : Array Nat)) (show (#[29, 30, 9] : Array Nat)[j]? = some t from ht); simpa using this
        have hall : ([29, 30, 9].all fun u => !Tryz.prog.wantsStandIn u) = true := by kernel_rfl
        exact (show Tryz.prog.wantsStandIn t = false by simpa using List.all_eq_true.1 hall t hm)⟩)
    (by kernel_rfl)
end Go.Proofs.YtfkgckbdknpcnaaGreatDoor

