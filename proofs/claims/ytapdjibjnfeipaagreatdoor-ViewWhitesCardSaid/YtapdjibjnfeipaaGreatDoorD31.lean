/- A law of the given program is proved: part 31 of 51. -/
import Derived.IntWalk
import Derived.Test.YtapdjibjnfeipaaGreatDoorD30
set_option linter.all false
/- Generic functions of slices: IndexFunc, ContainsFunc, for all types. -/
set_option linter.unusedSimpArgs false
set_option linter.unusedVariables false
namespace Go.Proofs.YtapdjibjnfeipaaGreatDoor.AL
open Go.RowKit
def idxF {α : Type} (p : α → Bool) (xs : List α) : Int := if xs.any p = true then (xs.findIdx p : Int) else -1
theorem x76 {α : Type} (p : α → Bool) (xs : List α) (i : Nat) (hi : i < xs.length) (h : p xs[i] = true) (hl : ∀ j (hj : j < i), p (xs[j]'(by omega)) = false) : idxF p xs = i := by
  unfold idxF
  have hany : xs.any p = true := List.any_eq_true.2 ⟨xs[i], List.getElem_mem hi, h⟩
  rw [if_pos hany]
  congr 1
  exact (List.findIdx_eq hi).2 ⟨h, hl⟩
theorem xb2 {α : Type} (p : α → Bool) (xs : List α) (hl : ∀ j (hj : j < xs.length), p (xs[j]'hj) = false) : idxF p xs = -1 := by
  unfold idxF
  have hany : ¬ xs.any p = true := by
    intro h
    obtain ⟨x, hx, hp⟩ := List.any_eq_true.1 h
    obtain ⟨j, hj, rfl⟩ := List.getElem_of_mem hx
    rw [hl j hj] at hp
    cases hp
  rw [if_neg hany]
def idxAC (S E : TypeId) : AC := (.seq (.region [⟨.assign (.const (Value.int .i64 0)), some 4, none⟩])
 (.seq (.seq (.region [⟨.move (.tmp 0), some 6, none⟩,
  ⟨.call (Go.Call.mk (.builtin .len) #[.tmp 6] #[S]), some 7, none⟩,
  ⟨.move (.const (Value.int .i64 0)), some 8, none⟩])
 (.block 0 (.loop (.seq (.region [⟨.binOp .lss 3 (.tmp 8) (.tmp 7) 3, some 9, none⟩])
 (.seq (.cond (.tmp 9) .skip
 (.exit 0))
 (.seq (.block 1 (.seq (.region [⟨.move (.tmp 8), some 10, none⟩,
  ⟨.assign (.tmp 10), some 5, none⟩])
 (.seq (.region [⟨.move (.tmp 1), some 11, none⟩,
  ⟨.move (.tmp 0), some 12, none⟩,
  ⟨.move (.tmp 5), some 13, none⟩,
  ⟨.indexAddr S (.tmp 12) (.tmp 13), some 14, none⟩,
  ⟨.load E (.tmp 14), some 15, none⟩,
  ⟨.call (Go.Call.mk (.value (.tmp 11)) #[.tmp 15] #[E]), some 16, none⟩])
 (.cond (.tmp 16) (.seq (.region [⟨.move (.tmp 5), some 17, none⟩,
  ⟨.assign (.tmp 17), some 4, none⟩])
 .ret)
 .skip))))
 (.region [⟨.binOp .add 3 (.tmp 8) (.const (Value.int .i64 1)) 3, some 18, none⟩,
  ⟨.move (.tmp 18), some 8, none⟩])))))))
 (.seq (.region [⟨.assign (.const (Value.int .i64 (-1))), some 4, none⟩])
 .ret)))
theorem xiy {α : Type} {P : Program} {S E n : Nat} {b : Bool} (hS : xp P S = some E) (hE : aggN P E = some (b, n)) {f : FuncId} {fi ca : List AV} (enc : α → AV) (l : List α) (p : α → Bool) (hlen : l.length < 9223372036854775807)
    (hp : ∀ x ∈ l, Ok P f (fi ++ ([enc x] ++ ca)) (bool (p x))) (hcl : ∀ x ∈ l, closeds (fi ++ ([enc x] ++ ca)) = true) (hld : ∀ x ∈ l, evalLd P E (enc x) 0 = some (enc x)) (H : Nat → Option AO) (nx : Nat) :
    cw P 19 (idxAC S E) (finQ P [.tmp 4] (frzR (int (idxF p l)))) ⟨argT [.sl n (l.map enc), .fn (.func f) fi ca], H, nx⟩ := by
  have h1 := len_sl P hS
  have h2 := xgc P hS hE
  unfold idxAC
  simp (config := { contextual := true }) only [h1, List.length_map, ↓xek, ↓xui, ↓xai, ↓xti, ↓xhh, ↓x0g, opR_t, opR_f, gR_tt, gR_ff, gR_tf, gR_ft, xik, x5g, xcj, xmi, xqm, xii, x0i, ↓x6h, ↓xzg, ↓x6i, opV_t, opV_f, gV_tt, gV_ff, gV_tf, gV_ft, x5m, x4g, xmj, xfl, x1m, x1k, x7i, x4j, mem_c, mem_n, xem, xlk, opD_t, opD_f, gD_tt, gD_ff, gD_tf, gD_ft, xpk, xdh, x2i, x6k, x7m, xei, xbj, tstR_t, tstR_f, brR_t, brR_f, xck, xnm, xbo, xqo, xmm, argT_0, argT_1, argT_2, argT_3, argT_4, xri, xtj, xyi, x9h, xxg, xwf, ev_tmp, x6j, xmo, xsf, x6e, xyf, xje, xsh, xqg, xnh, x1f, isCall, E_move, xak, xdl, E_pick, x6l, xbm, E_load, xgm, xrh, x3j, E_len, x8l, x9g, x2j, xzm, xco, E_bin, E_binI, E_binS, E_binA, E_binN, B_add, B_sub, B_mul, B_quo, B_rem, B_and, B_or, B_eql, B_neq, B_lss, B_leq, B_gtr, B_geq, S_eql, S_neq, S_lss, S_add, E_not, notK_t, notK_f, notK_b, x4f, xyl, xxf, xdm, xam, xwg, xci, xaf, xmk, xsj, x5h, xzf, xfi, xdi, xgj, xpi, xnk, x2k, xgl, x8k, x4k, xen, xuk, xyg, ↓upd_at, Option.map_some, Option.map_none, List.length_cons, List.length_nil, List.getElem?_cons_zero, List.getElem?_cons_succ, List.getD_cons_zero, List.getD_cons_succ, List.set_cons_zero, List.set_cons_succ, List.map_cons, List.map_nil, Nat.reduceAdd, Nat.reduceSub, Nat.reduceMul, Nat.reduceEqDiff, Nat.reduceBEq, Nat.reduceLT, Nat.reduceLeDiff, ↓reduceIte, reduceCtorEq, decide_true, decide_false, Nat.zero_add, Nat.add_zero, and_true, true_and, and_self, forall_const, not_true_eq_false, not_false_eq_true, false_implies, true_implies, Nat.one_ne_zero, ne_eq, if_false, if_true, Bool.false_eq_true, Bool.true_eq_false, or_self, or_false, false_or, or_true, true_or, Bool.and_true, Bool.true_and, ↓C_skip, ↓C_ret, ↓C_exit, ↓xzl, ↓C_goto, ↓xwj, ↓C_draw, ↓x9l, ↓C_seq, ↓C_cond, x8n, x9n, x5l, ↓xxl, ↓C_loop, ↓x1l, ↓Q_seqN, ↓Q_seqE, ↓Q_seqG, ↓Q_seqR, ↓xuj, ↓x9j, ↓xvj, ↓xsk, ↓Q_finN, ↓Q_finR, ↓xjk, ↓xbk, ↓xfk, ↓xkj, x8h, xqk, x0m, hs_int, x0o, hs_str, hs_nil, hs_sl, hs_msl, hs_loc, hs_ptr, hs_mp, x5n, hs_fn, hs_e0, iv_int, Nat.add_assoc, Nat.add_left_cancel_iff, Nat.add_lt_add_iff_left, xbi, x8j, xuf, hs_agg, xhk, x0l, x4l, x3m, xjm, xim, xlm, one_sl, xpo, x3n, x2n, one_mp, one_fn, one_e0, Bool.and_self, beq_self_eq_true, ↓xji, ↓x2l, xwl, xah, ↓retR_3, ↓xdk, ↓xgk, ↓xgi, xki, xqi, x2g, x5j, xsi, x3g, xgh, x7g, x1g, x9i, xkk, x5k, x0k, xzj, xan, xdn, List.take_succ_cons, List.take_zero, List.drop_succ_cons, List.drop_zero, List.cons_append, List.nil_append, List.append_nil, List.take_nil, List.drop_nil]
  refine xfp (fun s => s.T 0 = .sl n (l.map enc) ∧ s.T 1 = .fn (.func f) fi ca ∧ s.T 7 = int l.length ∧ ∃ i : Nat, s.T 8 = int i ∧ i ≤ l.length ∧ ∀ j (hj : j < i) (hj' : j < l.length), p (l[j]'hj') = false) (fun s => ((l.length : Int) - iv (s.T 8)).toNat) ?_ ?_
  · simp (config := { contextual := true }) only [↓xek, ↓xui, ↓xai, ↓xti, ↓xhh, ↓x0g, opR_t, opR_f, gR_tt, gR_ff, gR_tf, gR_ft, xik, x5g, xcj, xmi, xqm, xii, x0i, ↓x6h, ↓xzg, ↓x6i, opV_t, opV_f, gV_tt, gV_ff, gV_tf, gV_ft, x5m, x4g, xmj, xfl, x1m, x1k, x7i, x4j, mem_c, mem_n, xem, xlk, opD_t, opD_f, gD_tt, gD_ff, gD_tf, gD_ft, xpk, xdh, x2i, x6k, x7m, xei, xbj, tstR_t, tstR_f, brR_t, brR_f, xck, xnm, xbo, xqo, xmm, argT_0, argT_1, argT_2, argT_3, argT_4, xri, xtj, xyi, x9h, xxg, xwf, ev_tmp, x6j, xmo, xsf, x6e, xyf, xje, xsh, xqg, xnh, x1f, isCall, E_move, xak, xdl, E_pick, x6l, xbm, E_load, xgm, xrh, x3j, E_len, x8l, x9g, x2j, xzm, xco, E_bin, E_binI, E_binS, E_binA, E_binN, B_add, B_sub, B_mul, B_quo, B_rem, B_and, B_or, B_eql, B_neq, B_lss, B_leq, B_gtr, B_geq, S_eql, S_neq, S_lss, S_add, E_not, notK_t, notK_f, notK_b, x4f, xyl, xxf, xdm, xam, xwg, xci, xaf, xmk, xsj, x5h, xzf, xfi, xdi, xgj, xpi, xnk, x2k, xgl, x8k, x4k, xen, xuk, xyg, ↓upd_at, Option.map_some, Option.map_none, List.length_cons, List.length_nil, List.getElem?_cons_zero, List.getElem?_cons_succ, List.getD_cons_zero, List.getD_cons_succ, List.set_cons_zero, List.set_cons_succ, List.map_cons, List.map_nil, Nat.reduceAdd, Nat.reduceSub, Nat.reduceMul, Nat.reduceEqDiff, Nat.reduceBEq, Nat.reduceLT, Nat.reduceLeDiff, ↓reduceIte, reduceCtorEq, decide_true, decide_false, Nat.zero_add, Nat.add_zero, and_true, true_and, and_self, forall_const, not_true_eq_false, not_false_eq_true, false_implies, true_implies, Nat.one_ne_zero, ne_eq, if_false, if_true, Bool.false_eq_true, Bool.true_eq_false, or_self, or_false, false_or, or_true, true_or, Bool.and_true, Bool.true_and, ↓C_skip, ↓C_ret, ↓C_exit, ↓xzl, ↓C_goto, ↓xwj, ↓C_draw, ↓x9l, ↓C_seq, ↓C_cond, x8n, x9n, x5l, ↓xxl, ↓C_loop, ↓x1l, ↓Q_seqN, ↓Q_seqE, ↓Q_seqG, ↓Q_seqR, ↓xuj, ↓x9j, ↓xvj, ↓xsk, ↓Q_finN, ↓Q_finR, ↓xjk, ↓xbk, ↓xfk, ↓xkj, x8h, xqk, x0m, hs_int, x0o, hs_str, hs_nil, hs_sl, hs_msl, hs_loc, hs_ptr, hs_mp, x5n, hs_fn, hs_e0, iv_int, Nat.add_assoc, Nat.add_left_cancel_iff, Nat.add_lt_add_iff_left, xbi, x8j, xuf, hs_agg, xhk, x0l, x4l, x3m, xjm, xim, xlm, one_sl, xpo, x3n, x2n, one_mp, one_fn, one_e0, Bool.and_self, beq_self_eq_true, ↓xji, ↓x2l, xwl, xah, ↓retR_3, ↓xdk, ↓xgk, ↓xgi, xki, xqi, x2g, x5j, xsi, x3g, xgh, x7g, x1g, x9i, xkk, x5k, x0k, xzj, xan, xdn, List.take_succ_cons, List.take_zero, List.drop_succ_cons, List.drop_zero, List.cons_append, List.nil_append, List.append_nil, List.take_nil, List.drop_nil]
    exact ⟨0, rfl, by omega, fun j hj => by omega⟩
  · rintro ⟨T, H, nx⟩ ⟨k0, k1, k2, i, k3, k4, k5⟩
    simp only at k0 k1 k2 k3
    apply cw_cwp
    have i0 : (0 : Int) ≤ (i : Int) := by omega
    have i1 : ((i : Int)).toNat = i := by omega
    by_cases hi : i < l.length
    · have i2 : (i : Int) < (l.length : Int) := by omega
      have i3 : (l.map enc)[i]? = some (enc l[i]) := by simp [hi]
      have hm : l[i] ∈ l := List.getElem_mem hi
      have i4 := hld _ hm
      have i5 := Go.IntWalk.i64_in ((i : Int) + 1) (by omega)
      simp only [h2, k0, k1, k2, k3, i0, i1, i2, i3, i4, ↓xek, ↓xui, ↓xai, ↓xti, ↓xhh, ↓x0g, opR_t, opR_f, gR_tt, gR_ff, gR_tf, gR_ft, xik, x5g, xcj, xmi, xqm, xii, x0i, ↓x6h, ↓xzg, ↓x6i, opV_t, opV_f, gV_tt, gV_ff, gV_tf, gV_ft, x5m, x4g, xmj, xfl, x1m, x1k, x7i, x4j, mem_c, mem_n, xem, xlk, opD_t, opD_f, gD_tt, gD_ff, gD_tf, gD_ft, xpk, xdh, x2i, x6k, x7m, xei, xbj, tstR_t, tstR_f, brR_t, brR_f, xck, xnm, xbo, xqo, xmm, argT_0, argT_1, argT_2, argT_3, argT_4, xri, xtj, xyi, x9h, xxg, xwf, ev_tmp, x6j, xmo, xsf, x6e, xyf, xje, xsh, xqg, xnh, x1f, isCall, E_move, xak, xdl, E_pick, x6l, xbm, E_load, xgm, xrh, x3j, E_len, x8l, x9g, x2j, xzm, xco, E_bin, E_binI, E_binS, E_binA, E_binN, B_add, B_sub, B_mul, B_quo, B_rem, B_and, B_or, B_eql, B_neq, B_lss, B_leq, B_gtr, B_geq, S_eql, S_neq, S_lss, S_add, E_not, notK_t, notK_f, notK_b, x4f, xyl, xxf, xdm, xam, xwg, xci, xaf, xmk, xsj, x5h, xzf, xfi, xdi, xgj, xpi, xnk, x2k, xgl, x8k, x4k, xen, xuk, xyg, ↓upd_at, Option.map_some, Option.map_none, List.length_cons, List.length_nil, List.getElem?_cons_zero, List.getElem?_cons_succ, List.getD_cons_zero, List.getD_cons_succ, List.set_cons_zero, List.set_cons_succ, List.map_cons, List.map_nil, Nat.reduceAdd, Nat.reduceSub, Nat.reduceMul, Nat.reduceEqDiff, Nat.reduceBEq, Nat.reduceLT, Nat.reduceLeDiff, ↓reduceIte, reduceCtorEq, decide_true, decide_false, Nat.zero_add, Nat.add_zero, and_true, true_and, and_self, forall_const, not_true_eq_false, not_false_eq_true, false_implies, true_implies, Nat.one_ne_zero, ne_eq, if_false, if_true, Bool.false_eq_true, Bool.true_eq_false, or_self, or_false, false_or, or_true, true_or, Bool.and_true, Bool.true_and, ↓C_skip, ↓C_ret, ↓C_exit, ↓xzl, ↓C_goto, ↓xwj, ↓C_draw, ↓x9l, ↓C_seq, ↓C_cond, x8n, x9n, x5l, ↓xxl, ↓C_loop, ↓x1l, ↓Q_seqN, ↓Q_seqE, ↓Q_seqG, ↓Q_seqR, ↓xuj, ↓x9j, ↓xvj, ↓xsk, ↓Q_finN, ↓Q_finR, ↓xjk, ↓xbk, ↓xfk, ↓xkj, x8h, xqk, x0m, hs_int, x0o, hs_str, hs_nil, hs_sl, hs_msl, hs_loc, hs_ptr, hs_mp, x5n, hs_fn, hs_e0, iv_int, Nat.add_assoc, Nat.add_left_cancel_iff, Nat.add_lt_add_iff_left, xbi, x8j, xuf, hs_agg, xhk, x0l, x4l, x3m, xjm, xim, xlm, one_sl, xpo, x3n, x2n, one_mp, one_fn, one_e0, Bool.and_self, beq_self_eq_true, ↓xji, ↓x2l, xwl, xah, ↓retR_3, ↓xdk, ↓xgk, ↓xgi, xki, xqi, x2g, x5j, xsi, x3g, xgh, x7g, x1g, x9i, xkk, x5k, x0k, xzj, xan, xdn, List.take_succ_cons, List.take_zero, List.drop_succ_cons, List.drop_zero, List.cons_append, List.nil_append, List.append_nil, List.take_nil, List.drop_nil]
      refine S1_ok (hp _ hm) rfl (hcl _ hm) ?_
      simp (config := { contextual := true }) only [k0, k1, k2, k3, i5, ↓xek, ↓xui, ↓xai, ↓xti, ↓xhh, ↓x0g, opR_t, opR_f, gR_tt, gR_ff, gR_tf, gR_ft, xik, x5g, xcj, xmi, xqm, xii, x0i, ↓x6h, ↓xzg, ↓x6i, opV_t, opV_f, gV_tt, gV_ff, gV_tf, gV_ft, x5m, x4g, xmj, xfl, x1m, x1k, x7i, x4j, mem_c, mem_n, xem, xlk, opD_t, opD_f, gD_tt, gD_ff, gD_tf, gD_ft, xpk, xdh, x2i, x6k, x7m, xei, xbj, tstR_t, tstR_f, brR_t, brR_f, xck, xnm, xbo, xqo, xmm, argT_0, argT_1, argT_2, argT_3, argT_4, xri, xtj, xyi, x9h, xxg, xwf, ev_tmp, x6j, xmo, xsf, x6e, xyf, xje, xsh, xqg, xnh, x1f, isCall, E_move, xak, xdl, E_pick, x6l, xbm, E_load, xgm, xrh, x3j, E_len, x8l, x9g, x2j, xzm, xco, E_bin, E_binI, E_binS, E_binA, E_binN, B_add, B_sub, B_mul, B_quo, B_rem, B_and, B_or, B_eql, B_neq, B_lss, B_leq, B_gtr, B_geq, S_eql, S_neq, S_lss, S_add, E_not, notK_t, notK_f, notK_b, x4f, xyl, xxf, xdm, xam, xwg, xci, xaf, xmk, xsj, x5h, xzf, xfi, xdi, xgj, xpi, xnk, x2k, xgl, x8k, x4k, xen, xuk, xyg, ↓upd_at, Option.map_some, Option.map_none, List.length_cons, List.length_nil, List.getElem?_cons_zero, List.getElem?_cons_succ, List.getD_cons_zero, List.getD_cons_succ, List.set_cons_zero, List.set_cons_succ, List.map_cons, List.map_nil, Nat.reduceAdd, Nat.reduceSub, Nat.reduceMul, Nat.reduceEqDiff, Nat.reduceBEq, Nat.reduceLT, Nat.reduceLeDiff, ↓reduceIte, reduceCtorEq, decide_true, decide_false, Nat.zero_add, Nat.add_zero, and_true, true_and, and_self, forall_const, not_true_eq_false, not_false_eq_true, false_implies, true_implies, Nat.one_ne_zero, ne_eq, if_false, if_true, Bool.false_eq_true, Bool.true_eq_false, or_self, or_false, false_or, or_true, true_or, Bool.and_true, Bool.true_and, ↓C_skip, ↓C_ret, ↓C_exit, ↓xzl, ↓C_goto, ↓xwj, ↓C_draw, ↓x9l, ↓C_seq, ↓C_cond, x8n, x9n, x5l, ↓xxl, ↓C_loop, ↓x1l, ↓Q_seqN, ↓Q_seqE, ↓Q_seqG, ↓Q_seqR, ↓xuj, ↓x9j, ↓xvj, ↓xsk, ↓Q_finN, ↓Q_finR, ↓xjk, ↓xbk, ↓xfk, ↓xkj, x8h, xqk, x0m, hs_int, x0o, hs_str, hs_nil, hs_sl, hs_msl, hs_loc, hs_ptr, hs_mp, x5n, hs_fn, hs_e0, iv_int, Nat.add_assoc, Nat.add_left_cancel_iff, Nat.add_lt_add_iff_left, xbi, x8j, xuf, hs_agg, xhk, x0l, x4l, x3m, xjm, xim, xlm, one_sl, xpo, x3n, x2n, one_mp, one_fn, one_e0, Bool.and_self, beq_self_eq_true, ↓xji, ↓x2l, xwl, xah, ↓retR_3, ↓xdk, ↓xgk, ↓xgi, xki, xqi, x2g, x5j, xsi, x3g, xgh, x7g, x1g, x9i, xkk, x5k, x0k, xzj, xan, xdn, List.take_succ_cons, List.take_zero, List.drop_succ_cons, List.drop_zero, List.cons_append, List.nil_append, List.append_nil, List.take_nil, List.drop_nil]
      refine ⟨fun h => ?_, fun h => ⟨⟨i + 1, by simp, by omega, fun j hj hj' => ?_⟩, by omega⟩⟩
      · exact (x76 p l i hi h fun j hj => k5 j hj (by omega)).symm
      · by_cases e : j = i
        · subst e; exact h
        · exact k5 j (by omega) hj'
    · have i2 : ¬ (i : Int) < (l.length : Int) := by omega
      simp only [h2, k0, k1, k2, k3, i0, i1, i2, ↓xek, ↓xui, ↓xai, ↓xti, ↓xhh, ↓x0g, opR_t, opR_f, gR_tt, gR_ff, gR_tf, gR_ft, xik, x5g, xcj, xmi, xqm, xii, x0i, ↓x6h, ↓xzg, ↓x6i, opV_t, opV_f, gV_tt, gV_ff, gV_tf, gV_ft, x5m, x4g, xmj, xfl, x1m, x1k, x7i, x4j, mem_c, mem_n, xem, xlk, opD_t, opD_f, gD_tt, gD_ff, gD_tf, gD_ft, xpk, xdh, x2i, x6k, x7m, xei, xbj, tstR_t, tstR_f, brR_t, brR_f, xck, xnm, xbo, xqo, xmm, argT_0, argT_1, argT_2, argT_3, argT_4, xri, xtj, xyi, x9h, xxg, xwf, ev_tmp, x6j, xmo, xsf, x6e, xyf, xje, xsh, xqg, xnh, x1f, isCall, E_move, xak, xdl, E_pick, x6l, xbm, E_load, xgm, xrh, x3j, E_len, x8l, x9g, x2j, xzm, xco, E_bin, E_binI, E_binS, E_binA, E_binN, B_add, B_sub, B_mul, B_quo, B_rem, B_and, B_or, B_eql, B_neq, B_lss, B_leq, B_gtr, B_geq, S_eql, S_neq, S_lss, S_add, E_not, notK_t, notK_f, notK_b, x4f, xyl, xxf, xdm, xam, xwg, xci, xaf, xmk, xsj, x5h, xzf, xfi, xdi, xgj, xpi, xnk, x2k, xgl, x8k, x4k, xen, xuk, xyg, ↓upd_at, Option.map_some, Option.map_none, List.length_cons, List.length_nil, List.getElem?_cons_zero, List.getElem?_cons_succ, List.getD_cons_zero, List.getD_cons_succ, List.set_cons_zero, List.set_cons_succ, List.map_cons, List.map_nil, Nat.reduceAdd, Nat.reduceSub, Nat.reduceMul, Nat.reduceEqDiff, Nat.reduceBEq, Nat.reduceLT, Nat.reduceLeDiff, ↓reduceIte, reduceCtorEq, decide_true, decide_false, Nat.zero_add, Nat.add_zero, and_true, true_and, and_self, forall_const, not_true_eq_false, not_false_eq_true, false_implies, true_implies, Nat.one_ne_zero, ne_eq, if_false, if_true, Bool.false_eq_true, Bool.true_eq_false, or_self, or_false, false_or, or_true, true_or, Bool.and_true, Bool.true_and, ↓C_skip, ↓C_ret, ↓C_exit, ↓xzl, ↓C_goto, ↓xwj, ↓C_draw, ↓x9l, ↓C_seq, ↓C_cond, x8n, x9n, x5l, ↓xxl, ↓C_loop, ↓x1l, ↓Q_seqN, ↓Q_seqE, ↓Q_seqG, ↓Q_seqR, ↓xuj, ↓x9j, ↓xvj, ↓xsk, ↓Q_finN, ↓Q_finR, ↓xjk, ↓xbk, ↓xfk, ↓xkj, x8h, xqk, x0m, hs_int, x0o, hs_str, hs_nil, hs_sl, hs_msl, hs_loc, hs_ptr, hs_mp, x5n, hs_fn, hs_e0, iv_int, Nat.add_assoc, Nat.add_left_cancel_iff, Nat.add_lt_add_iff_left, xbi, x8j, xuf, hs_agg, xhk, x0l, x4l, x3m, xjm, xim, xlm, one_sl, xpo, x3n, x2n, one_mp, one_fn, one_e0, Bool.and_self, beq_self_eq_true, ↓xji, ↓x2l, xwl, xah, ↓retR_3, ↓xdk, ↓xgk, ↓xgi, xki, xqi, x2g, x5j, xsi, x3g, xgh, x7g, x1g, x9i, xkk, x5k, x0k, xzj, xan, xdn, List.take_succ_cons, List.take_zero, List.drop_succ_cons, List.drop_zero, List.cons_append, List.nil_append, List.append_nil, List.take_nil, List.drop_nil]
      exact (xb2 p l fun j hj => k5 j (by omega) hj).symm
theorem xsq {α : Type} {P : Program} {g : FuncId} {S E n : Nat} {b : Bool} (hf : FnC P g 19 [.tmp 4] (idxAC S E)) (hS : xp P S = some E) (hE : aggN P E = some (b, n)) {f : FuncId} {fi ca : List AV} (enc : α → AV) (l : List α) (p : α → Bool) (hlen : l.length < 9223372036854775807)
    (hp : ∀ x ∈ l, Ok P f (fi ++ ([enc x] ++ ca)) (bool (p x))) (hcl : ∀ x ∈ l, closeds (fi ++ ([enc x] ++ ca)) = true) (hld : ∀ x ∈ l, evalLd P E (enc x) 0 = some (enc x)) :
    Ok P g [.sl n (l.map enc), .fn (.func f) fi ca] (int (idxF p l)) := okF hf (by simp) (xiy hS hE enc l p hlen hp hcl hld _ _)
theorem x8g {a b : List AV} (ha : closeds a = true) (hb : closeds b = true) : closeds (a ++ b) = true := by
  induction a with
  | nil => exact hb
  | cons x a ih =>
    simp only [closeds, Bool.and_eq_true] at ha
    simp only [List.cons_append, closeds, Bool.and_eq_true]
    exact ⟨ha.1, ih ha.2⟩
def conAC (g : FuncId) (S F : TypeId) : AC := (.seq (.region [⟨.assign (.const (Value.bool false)), some 4, none⟩])
 (.seq (.region [⟨.move (.tmp 0), some 5, none⟩,
  ⟨.move (.tmp 1), some 6, none⟩,
  ⟨.call (Go.Call.mk (.value (.func g)) #[.tmp 5, .tmp 6] #[S, F]), some 7, none⟩,
  ⟨.binOp .geq 3 (.tmp 7) (.const (Value.int .i64 0)) 3, some 8, none⟩,
  ⟨.assign (.tmp 8), some 4, none⟩])
 .ret))
end Go.Proofs.YtapdjibjnfeipaaGreatDoor.AL

