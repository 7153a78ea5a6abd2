/- What any node of any stack should say of copies, and which say otherwise, is what the document says: part 31 of 51. -/
import Derived.IntWalk
import Derived.Test.YtfefidkblgendaaGreatDoorA30
set_option linter.all false
/- Generic functions of slices: IndexFunc, ContainsFunc, for all types. -/
set_option linter.unusedSimpArgs false
set_option linter.unusedVariables false
namespace Go.Proofs.YtfefidkblgendaaGreatDoor.AL
open Go.RowKit
def idxF {α : Type} (p : α → Bool) (xs : List α) : Int := if xs.any p = true then (xs.findIdx p : Int) else -1
theorem xfeb {α : Type} (p : α → Bool) (xs : List α) (i : Nat) (hi : i < xs.length) (h : p xs[i] = true) (hl : ∀ j (hj : j < i), p (xs[j]'(by omega)) = false) : idxF p xs = i := by
  unfold idxF
  have hany : xs.any p = true := List.any_eq_true.2 ⟨xs[i], List.getElem_mem hi, h⟩
  rw [if_pos hany]
  congr 1
  exact (List.findIdx_eq hi).2 ⟨h, hl⟩
theorem x49 {α : Type} (p : α → Bool) (xs : List α) (hl : ∀ j (hj : j < xs.length), p (xs[j]'hj) = false) : idxF p xs = -1 := by
  unfold idxF
  have hany : ¬ xs.any p = true := by
    intro h
    obtain ⟨x, hx, hp⟩ := List.any_eq_true.1 h
    obtain ⟨j, hj, rfl⟩ := List.getElem_of_mem hx
    rw [hl j hj] at hp
    cases hp
  rw [if_neg hany]
def idxAC (S E : TypeId) : AC := (.seq (.region [⟨.assign (.const (Value.int .i64 0)), some 4, none⟩])
 (.seq (.seq (.region [⟨.move (.tmp 0), some 6, none⟩,
  ⟨.call (Go.Call.mk (.builtin .len) #[.tmp 6] #[S]), some 7, none⟩,
  ⟨.move (.const (Value.int .i64 0)), some 8, none⟩])
 (.block 0 (.loop (.seq (.region [⟨.binOp .lss 3 (.tmp 8) (.tmp 7) 3, some 9, none⟩])
 (.seq (.cond (.tmp 9) .skip
 (.exit 0))
 (.seq (.block 1 (.seq (.region [⟨.move (.tmp 8), some 10, none⟩,
  ⟨.assign (.tmp 10), some 5, none⟩])
 (.seq (.region [⟨.move (.tmp 1), some 11, none⟩,
  ⟨.move (.tmp 0), some 12, none⟩,
  ⟨.move (.tmp 5), some 13, none⟩,
  ⟨.indexAddr S (.tmp 12) (.tmp 13), some 14, none⟩,
  ⟨.load E (.tmp 14), some 15, none⟩,
  ⟨.call (Go.Call.mk (.value (.tmp 11)) #[.tmp 15] #[E]), some 16, none⟩])
 (.cond (.tmp 16) (.seq (.region [⟨.move (.tmp 5), some 17, none⟩,
  ⟨.assign (.tmp 17), some 4, none⟩])
 .ret)
 .skip))))
 (.region [⟨.binOp .add 3 (.tmp 8) (.const (Value.int .i64 1)) 3, some 18, none⟩,
  ⟨.move (.tmp 18), some 8, none⟩])))))))
 (.seq (.region [⟨.assign (.const (Value.int .i64 (-1))), some 4, none⟩])
 .ret)))
theorem x93 {α : Type} {P : Program} {S E n : Nat} {b : Bool} (hS : xy P S = some E) (hE : aggN P E = some (b, n)) {f : FuncId} {fi ca : List AV} (enc : α → AV) (l : List α) (p : α → Bool) (hlen : l.length < 9223372036854775807)
    (hp : ∀ x ∈ l, Ok P f (fi ++ ([enc x] ++ ca)) (bool (p x))) (hcl : ∀ x ∈ l, closeds (fi ++ ([enc x] ++ ca)) = true) (hld : ∀ x ∈ l, evalLd P E (enc x) 0 = some (enc x)) (H : Nat → Option AO) (nx : Nat) :
    cw P 19 (idxAC S E) (finQ P [.tmp 4] (frzR (int (idxF p l)))) ⟨argT [.sl n (l.map enc), .fn (.func f) fi ca], H, nx⟩ := by
  have h1 := len_sl P hS
  have h2 := xsd P hS hE
  unfold idxAC
  simp (config := { contextual := true }) only [h1, List.length_map, ↓xwm, ↓xkk, ↓xwk, ↓xsk, ↓x2i, ↓xoj, opR_t, opR_f, gR_tt, gR_ff, gR_tf, gR_ft, x2m, xcj, xcl, x3k, x9o, x1k, xxl, ↓xuk, ↓xij, ↓xgl, opV_t, opV_f, gV_tt, gV_ff, gV_tf, gV_ft, xup, xpj, xol, xwn, xwp, xqn, xsl, xjm, mem_c, mem_n, xto, xrm, opD_t, opD_f, gD_tt, gD_ff, gD_tf, gD_ft, xym, xhj, xil, xen, xyp, xin, xyl, tstR_t, tstR_f, brR_t, brR_f, xlm, x2p, x7q, xlr, x9p, argT_0, argT_1, argT_2, argT_3, argT_4, x2k, xtm, xxk, x6k, xej, xrh, ev_tmp, xom, xar, xvh, xog, xuh, xqf, xwj, xoi, xyj, xuj, isCall, E_move, xxm, xpk, E_pick, x5o, xzo, E_load, xuo, xvj, xvm, E_len, xlo, xrl, x7o, xop, x9q, E_bin, E_binI, E_binS, E_binA, E_binN, B_add, B_sub, B_mul, B_quo, B_rem, B_and, B_or, B_eql, B_neq, B_lss, B_leq, B_gtr, B_geq, S_eql, S_neq, S_lss, S_add, E_not, notK_t, notK_f, notK_b, xph, xwo, xqh, x6o, x3o, xdj, x4k, xtg, x5l, x3m, xjk, xlh, xln, xlk, x8k, xnk, xdm, xgn, xtn, xzn, xhn, x4p, xnm, x0i, ↓upd_at, Option.map_some, Option.map_none, List.length_cons, List.length_nil, List.getElem?_cons_zero, List.getElem?_cons_succ, List.getD_cons_zero, List.getD_cons_succ, List.set_cons_zero, List.set_cons_succ, List.map_cons, List.map_nil, Nat.reduceAdd, Nat.reduceSub, Nat.reduceMul, Nat.reduceEqDiff, Nat.reduceBEq, Nat.reduceLT, Nat.reduceLeDiff, ↓reduceIte, reduceCtorEq, decide_true, decide_false, Nat.zero_add, Nat.add_zero, and_true, true_and, and_self, forall_const, not_true_eq_false, not_false_eq_true, false_implies, true_implies, Nat.one_ne_zero, ne_eq, if_false, if_true, Bool.false_eq_true, Bool.true_eq_false, or_self, or_false, false_or, or_true, true_or, Bool.and_true, Bool.true_and, ↓C_skip, ↓C_ret, ↓C_exit, ↓xmo, ↓C_goto, ↓x8m, ↓C_draw, ↓x4o, ↓C_seq, ↓C_cond, x2q, xmr, xoo, ↓xso, ↓C_loop, ↓xho, ↓Q_seqN, ↓Q_seqE, ↓Q_seqG, ↓Q_seqR, ↓x7l, ↓x7m, ↓x0m, ↓xsm, ↓Q_finN, ↓Q_finR, ↓xvp, ↓xkm, ↓xqm, ↓xal, xrk, xbm, xem, hs_int, xkr, hs_str, hs_nil, hs_sl, hs_msl, hs_loc, hs_ptr, hs_mp, xtr, hs_fn, hs_e0, iv_int, Nat.add_assoc, Nat.add_left_cancel_iff, Nat.add_lt_add_iff_left, xsn, xmp, x0j, hs_agg, xim, xpo, x1o, x0p, xko, x2o, x8p, one_sl, xbr, x1q, x8q, one_mp, one_fn, one_e0, Bool.and_self, beq_self_eq_true, ↓xtk, ↓xxo, xyo, xkj, ↓retR_3, ↓x8l, ↓x1m, ↓x0k, xmk, xqk, xmj, xfm, xok, xfj, xgj, xzi, xnj, x9k, xgm, xpn, xkn, xxp, xnp, xjp, List.take_succ_cons, List.take_zero, List.drop_succ_cons, List.drop_zero, List.cons_append, List.nil_append, List.append_nil, List.take_nil, List.drop_nil]
  refine xfs (fun s => s.T 0 = .sl n (l.map enc) ∧ s.T 1 = .fn (.func f) fi ca ∧ s.T 7 = int l.length ∧ ∃ i : Nat, s.T 8 = int i ∧ i ≤ l.length ∧ ∀ j (hj : j < i) (hj' : j < l.length), p (l[j]'hj') = false) (fun s => ((l.length : Int) - iv (s.T 8)).toNat) ?_ ?_
  · simp (config := { contextual := true }) only [↓xwm, ↓xkk, ↓xwk, ↓xsk, ↓x2i, ↓xoj, opR_t, opR_f, gR_tt, gR_ff, gR_tf, gR_ft, x2m, xcj, xcl, x3k, x9o, x1k, xxl, ↓xuk, ↓xij, ↓xgl, opV_t, opV_f, gV_tt, gV_ff, gV_tf, gV_ft, xup, xpj, xol, xwn, xwp, xqn, xsl, xjm, mem_c, mem_n, xto, xrm, opD_t, opD_f, gD_tt, gD_ff, gD_tf, gD_ft, xym, xhj, xil, xen, xyp, xin, xyl, tstR_t, tstR_f, brR_t, brR_f, xlm, x2p, x7q, xlr, x9p, argT_0, argT_1, argT_2, argT_3, argT_4, x2k, xtm, xxk, x6k, xej, xrh, ev_tmp, xom, xar, xvh, xog, xuh, xqf, xwj, xoi, xyj, xuj, isCall, E_move, xxm, xpk, E_pick, x5o, xzo, E_load, xuo, xvj, xvm, E_len, xlo, xrl, x7o, xop, x9q, E_bin, E_binI, E_binS, E_binA, E_binN, B_add, B_sub, B_mul, B_quo, B_rem, B_and, B_or, B_eql, B_neq, B_lss, B_leq, B_gtr, B_geq, S_eql, S_neq, S_lss, S_add, E_not, notK_t, notK_f, notK_b, xph, xwo, xqh, x6o, x3o, xdj, x4k, xtg, x5l, x3m, xjk, xlh, xln, xlk, x8k, xnk, xdm, xgn, xtn, xzn, xhn, x4p, xnm, x0i, ↓upd_at, Option.map_some, Option.map_none, List.length_cons, List.length_nil, List.getElem?_cons_zero, List.getElem?_cons_succ, List.getD_cons_zero, List.getD_cons_succ, List.set_cons_zero, List.set_cons_succ, List.map_cons, List.map_nil, Nat.reduceAdd, Nat.reduceSub, Nat.reduceMul, Nat.reduceEqDiff, Nat.reduceBEq, Nat.reduceLT, Nat.reduceLeDiff, ↓reduceIte, reduceCtorEq, decide_true, decide_false, Nat.zero_add, Nat.add_zero, and_true, true_and, and_self, forall_const, not_true_eq_false, not_false_eq_true, false_implies, true_implies, Nat.one_ne_zero, ne_eq, if_false, if_true, Bool.false_eq_true, Bool.true_eq_false, or_self, or_false, false_or, or_true, true_or, Bool.and_true, Bool.true_and, ↓C_skip, ↓C_ret, ↓C_exit, ↓xmo, ↓C_goto, ↓x8m, ↓C_draw, ↓x4o, ↓C_seq, ↓C_cond, x2q, xmr, xoo, ↓xso, ↓C_loop, ↓xho, ↓Q_seqN, ↓Q_seqE, ↓Q_seqG, ↓Q_seqR, ↓x7l, ↓x7m, ↓x0m, ↓xsm, ↓Q_finN, ↓Q_finR, ↓xvp, ↓xkm, ↓xqm, ↓xal, xrk, xbm, xem, hs_int, xkr, hs_str, hs_nil, hs_sl, hs_msl, hs_loc, hs_ptr, hs_mp, xtr, hs_fn, hs_e0, iv_int, Nat.add_assoc, Nat.add_left_cancel_iff, Nat.add_lt_add_iff_left, xsn, xmp, x0j, hs_agg, xim, xpo, x1o, x0p, xko, x2o, x8p, one_sl, xbr, x1q, x8q, one_mp, one_fn, one_e0, Bool.and_self, beq_self_eq_true, ↓xtk, ↓xxo, xyo, xkj, ↓retR_3, ↓x8l, ↓x1m, ↓x0k, xmk, xqk, xmj, xfm, xok, xfj, xgj, xzi, xnj, x9k, xgm, xpn, xkn, xxp, xnp, xjp, List.take_succ_cons, List.take_zero, List.drop_succ_cons, List.drop_zero, List.cons_append, List.nil_append, List.append_nil, List.take_nil, List.drop_nil]
    exact ⟨0, rfl, by omega, fun j hj => by omega⟩
  · rintro ⟨T, H, nx⟩ ⟨k0, k1, k2, i, k3, k4, k5⟩
    simp only at k0 k1 k2 k3
    apply cw_cwp
    have i0 : (0 : Int) ≤ (i : Int) := by omega
    have i1 : ((i : Int)).toNat = i := by omega
    by_cases hi : i < l.length
    · have i2 : (i : Int) < (l.length : Int) := by omega
      have i3 : (l.map enc)[i]? = some (enc l[i]) := by simp [hi]
      have hm : l[i] ∈ l := List.getElem_mem hi
      have i4 := hld _ hm
      have i5 := Go.IntWalk.i64_in ((i : Int) + 1) (by omega)
      simp only [h2, k0, k1, k2, k3, i0, i1, i2, i3, i4, ↓xwm, ↓xkk, ↓xwk, ↓xsk, ↓x2i, ↓xoj, opR_t, opR_f, gR_tt, gR_ff, gR_tf, gR_ft, x2m, xcj, xcl, x3k, x9o, x1k, xxl, ↓xuk, ↓xij, ↓xgl, opV_t, opV_f, gV_tt, gV_ff, gV_tf, gV_ft, xup, xpj, xol, xwn, xwp, xqn, xsl, xjm, mem_c, mem_n, xto, xrm, opD_t, opD_f, gD_tt, gD_ff, gD_tf, gD_ft, xym, xhj, xil, xen, xyp, xin, xyl, tstR_t, tstR_f, brR_t, brR_f, xlm, x2p, x7q, xlr, x9p, argT_0, argT_1, argT_2, argT_3, argT_4, x2k, xtm, xxk, x6k, xej, xrh, ev_tmp, xom, xar, xvh, xog, xuh, xqf, xwj, xoi, xyj, xuj, isCall, E_move, xxm, xpk, E_pick, x5o, xzo, E_load, xuo, xvj, xvm, E_len, xlo, xrl, x7o, xop, x9q, E_bin, E_binI, E_binS, E_binA, E_binN, B_add, B_sub, B_mul, B_quo, B_rem, B_and, B_or, B_eql, B_neq, B_lss, B_leq, B_gtr, B_geq, S_eql, S_neq, S_lss, S_add, E_not, notK_t, notK_f, notK_b, xph, xwo, xqh, x6o, x3o, xdj, x4k, xtg, x5l, x3m, xjk, xlh, xln, xlk, x8k, xnk, xdm, xgn, xtn, xzn, xhn, x4p, xnm, x0i, ↓upd_at, Option.map_some, Option.map_none, List.length_cons, List.length_nil, List.getElem?_cons_zero, List.getElem?_cons_succ, List.getD_cons_zero, List.getD_cons_succ, List.set_cons_zero, List.set_cons_succ, List.map_cons, List.map_nil, Nat.reduceAdd, Nat.reduceSub, Nat.reduceMul, Nat.reduceEqDiff, Nat.reduceBEq, Nat.reduceLT, Nat.reduceLeDiff, ↓reduceIte, reduceCtorEq, decide_true, decide_false, Nat.zero_add, Nat.add_zero, and_true, true_and, and_self, forall_const, not_true_eq_false, not_false_eq_true, false_implies, true_implies, Nat.one_ne_zero, ne_eq, if_false, if_true, Bool.false_eq_true, Bool.true_eq_false, or_self, or_false, false_or, or_true, true_or, Bool.and_true, Bool.true_and, ↓C_skip, ↓C_ret, ↓C_exit, ↓xmo, ↓C_goto, ↓x8m, ↓C_draw, ↓x4o, ↓C_seq, ↓C_cond, x2q, xmr, xoo, ↓xso, ↓C_loop, ↓xho, ↓Q_seqN, ↓Q_seqE, ↓Q_seqG, ↓Q_seqR, ↓x7l, ↓x7m, ↓x0m, ↓xsm, ↓Q_finN, ↓Q_finR, ↓xvp, ↓xkm, ↓xqm, ↓xal, xrk, xbm, xem, hs_int, xkr, hs_str, hs_nil, hs_sl, hs_msl, hs_loc, hs_ptr, hs_mp, xtr, hs_fn, hs_e0, iv_int, Nat.add_assoc, Nat.add_left_cancel_iff, Nat.add_lt_add_iff_left, xsn, xmp, x0j, hs_agg, xim, xpo, x1o, x0p, xko, x2o, x8p, one_sl, xbr, x1q, x8q, one_mp, one_fn, one_e0, Bool.and_self, beq_self_eq_true, ↓xtk, ↓xxo, xyo, xkj, ↓retR_3, ↓x8l, ↓x1m, ↓x0k, xmk, xqk, xmj, xfm, xok, xfj, xgj, xzi, xnj, x9k, xgm, xpn, xkn, xxp, xnp, xjp, List.take_succ_cons, List.take_zero, List.drop_succ_cons, List.drop_zero, List.cons_append, List.nil_append, List.append_nil, List.take_nil, List.drop_nil]
      refine S1_ok (hp _ hm) rfl (hcl _ hm) ?_
      simp (config := { contextual := true }) only [k0, k1, k2, k3, i5, ↓xwm, ↓xkk, ↓xwk, ↓xsk, ↓x2i, ↓xoj, opR_t, opR_f, gR_tt, gR_ff, gR_tf, gR_ft, x2m, xcj, xcl, x3k, x9o, x1k, xxl, ↓xuk, ↓xij, ↓xgl, opV_t, opV_f, gV_tt, gV_ff, gV_tf, gV_ft, xup, xpj, xol, xwn, xwp, xqn, xsl, xjm, mem_c, mem_n, xto, xrm, opD_t, opD_f, gD_tt, gD_ff, gD_tf, gD_ft, xym, xhj, xil, xen, xyp, xin, xyl, tstR_t, tstR_f, brR_t, brR_f, xlm, x2p, x7q, xlr, x9p, argT_0, argT_1, argT_2, argT_3, argT_4, x2k, xtm, xxk, x6k, xej, xrh, ev_tmp, xom, xar, xvh, xog, xuh, xqf, xwj, xoi, xyj, xuj, isCall, E_move, xxm, xpk, E_pick, x5o, xzo, E_load, xuo, xvj, xvm, E_len, xlo, xrl, x7o, xop, x9q, E_bin, E_binI, E_binS, E_binA, E_binN, B_add, B_sub, B_mul, B_quo, B_rem, B_and, B_or, B_eql, B_neq, B_lss, B_leq, B_gtr, B_geq, S_eql, S_neq, S_lss, S_add, E_not, notK_t, notK_f, notK_b, xph, xwo, xqh, x6o, x3o, xdj, x4k, xtg, x5l, x3m, xjk, xlh, xln, xlk, x8k, xnk, xdm, xgn, xtn, xzn, xhn, x4p, xnm, x0i, ↓upd_at, Option.map_some, Option.map_none, List.length_cons, List.length_nil, List.getElem?_cons_zero, List.getElem?_cons_succ, List.getD_cons_zero, List.getD_cons_succ, List.set_cons_zero, List.set_cons_succ, List.map_cons, List.map_nil, Nat.reduceAdd, Nat.reduceSub, Nat.reduceMul, Nat.reduceEqDiff, Nat.reduceBEq, Nat.reduceLT, Nat.reduceLeDiff, ↓reduceIte, reduceCtorEq, decide_true, decide_false, Nat.zero_add, Nat.add_zero, and_true, true_and, and_self, forall_const, not_true_eq_false, not_false_eq_true, false_implies, true_implies, Nat.one_ne_zero, ne_eq, if_false, if_true, Bool.false_eq_true, Bool.true_eq_false, or_self, or_false, false_or, or_true, true_or, Bool.and_true, Bool.true_and, ↓C_skip, ↓C_ret, ↓C_exit, ↓xmo, ↓C_goto, ↓x8m, ↓C_draw, ↓x4o, ↓C_seq, ↓C_cond, x2q, xmr, xoo, ↓xso, ↓C_loop, ↓xho, ↓Q_seqN, ↓Q_seqE, ↓Q_seqG, ↓Q_seqR, ↓x7l, ↓x7m, ↓x0m, ↓xsm, ↓Q_finN, ↓Q_finR, ↓xvp, ↓xkm, ↓xqm, ↓xal, xrk, xbm, xem, hs_int, xkr, hs_str, hs_nil, hs_sl, hs_msl, hs_loc, hs_ptr, hs_mp, xtr, hs_fn, hs_e0, iv_int, Nat.add_assoc, Nat.add_left_cancel_iff, Nat.add_lt_add_iff_left, xsn, xmp, x0j, hs_agg, xim, xpo, x1o, x0p, xko, x2o, x8p, one_sl, xbr, x1q, x8q, one_mp, one_fn, one_e0, Bool.and_self, beq_self_eq_true, ↓xtk, ↓xxo, xyo, xkj, ↓retR_3, ↓x8l, ↓x1m, ↓x0k, xmk, xqk, xmj, xfm, xok, xfj, xgj, xzi, xnj, x9k, xgm, xpn, xkn, xxp, xnp, xjp, List.take_succ_cons, List.take_zero, List.drop_succ_cons, List.drop_zero, List.cons_append, List.nil_append, List.append_nil, List.take_nil, List.drop_nil]
      refine ⟨fun h => ?_, fun h => ⟨⟨i + 1, by simp, by omega, fun j hj hj' => ?_⟩, by omega⟩⟩
      · exact (xfeb p l i hi h fun j hj => k5 j hj (by omega)).symm
      · by_cases e : j = i
        · subst e; exact h
        · exact k5 j (by omega) hj'
    · have i2 : ¬ (i : Int) < (l.length : Int) := by omega
      simp only [h2, k0, k1, k2, k3, i0, i1, i2, ↓xwm, ↓xkk, ↓xwk, ↓xsk, ↓x2i, ↓xoj, opR_t, opR_f, gR_tt, gR_ff, gR_tf, gR_ft, x2m, xcj, xcl, x3k, x9o, x1k, xxl, ↓xuk, ↓xij, ↓xgl, opV_t, opV_f, gV_tt, gV_ff, gV_tf, gV_ft, xup, xpj, xol, xwn, xwp, xqn, xsl, xjm, mem_c, mem_n, xto, xrm, opD_t, opD_f, gD_tt, gD_ff, gD_tf, gD_ft, xym, xhj, xil, xen, xyp, xin, xyl, tstR_t, tstR_f, brR_t, brR_f, xlm, x2p, x7q, xlr, x9p, argT_0, argT_1, argT_2, argT_3, argT_4, x2k, xtm, xxk, x6k, xej, xrh, ev_tmp, xom, xar, xvh, xog, xuh, xqf, xwj, xoi, xyj, xuj, isCall, E_move, xxm, xpk, E_pick, x5o, xzo, E_load, xuo, xvj, xvm, E_len, xlo, xrl, x7o, xop, x9q, E_bin, E_binI, E_binS, E_binA, E_binN, B_add, B_sub, B_mul, B_quo, B_rem, B_and, B_or, B_eql, B_neq, B_lss, B_leq, B_gtr, B_geq, S_eql, S_neq, S_lss, S_add, E_not, notK_t, notK_f, notK_b, xph, xwo, xqh, x6o, x3o, xdj, x4k, xtg, x5l, x3m, xjk, xlh, xln, xlk, x8k, xnk, xdm, xgn, xtn, xzn, xhn, x4p, xnm, x0i, ↓upd_at, Option.map_some, Option.map_none, List.length_cons, List.length_nil, List.getElem?_cons_zero, List.getElem?_cons_succ, List.getD_cons_zero, List.getD_cons_succ, List.set_cons_zero, List.set_cons_succ, List.map_cons, List.map_nil, Nat.reduceAdd, Nat.reduceSub, Nat.reduceMul, Nat.reduceEqDiff, Nat.reduceBEq, Nat.reduceLT, Nat.reduceLeDiff, ↓reduceIte, reduceCtorEq, decide_true, decide_false, Nat.zero_add, Nat.add_zero, and_true, true_and, and_self, forall_const, not_true_eq_false, not_false_eq_true, false_implies, true_implies, Nat.one_ne_zero, ne_eq, if_false, if_true, Bool.false_eq_true, Bool.true_eq_false, or_self, or_false, false_or, or_true, true_or, Bool.and_true, Bool.true_and, ↓C_skip, ↓C_ret, ↓C_exit, ↓xmo, ↓C_goto, ↓x8m, ↓C_draw, ↓x4o, ↓C_seq, ↓C_cond, x2q, xmr, xoo, ↓xso, ↓C_loop, ↓xho, ↓Q_seqN, ↓Q_seqE, ↓Q_seqG, ↓Q_seqR, ↓x7l, ↓x7m, ↓x0m, ↓xsm, ↓Q_finN, ↓Q_finR, ↓xvp, ↓xkm, ↓xqm, ↓xal, xrk, xbm, xem, hs_int, xkr, hs_str, hs_nil, hs_sl, hs_msl, hs_loc, hs_ptr, hs_mp, xtr, hs_fn, hs_e0, iv_int, Nat.add_assoc, Nat.add_left_cancel_iff, Nat.add_lt_add_iff_left, xsn, xmp, x0j, hs_agg, xim, xpo, x1o, x0p, xko, x2o, x8p, one_sl, xbr, x1q, x8q, one_mp, one_fn, one_e0, Bool.and_self, beq_self_eq_true, ↓xtk, ↓xxo, xyo, xkj, ↓retR_3, ↓x8l, ↓x1m, ↓x0k, xmk, xqk, xmj, xfm, xok, xfj, xgj, xzi, xnj, x9k, xgm, xpn, xkn, xxp, xnp, xjp, List.take_succ_cons, List.take_zero, List.drop_succ_cons, List.drop_zero, List.cons_append, List.nil_append, List.append_nil, List.take_nil, List.drop_nil]
      exact (x49 p l fun j hj => k5 j (by omega) hj).symm
theorem x3t {α : Type} {P : Program} {g : FuncId} {S E n : Nat} {b : Bool} (hf : FnC P g 19 [.tmp 4] (idxAC S E)) (hS : xy P S = some E) (hE : aggN P E = some (b, n)) {f : FuncId} {fi ca : List AV} (enc : α → AV) (l : List α) (p : α → Bool) (hlen : l.length < 9223372036854775807)
    (hp : ∀ x ∈ l, Ok P f (fi ++ ([enc x] ++ ca)) (bool (p x))) (hcl : ∀ x ∈ l, closeds (fi ++ ([enc x] ++ ca)) = true) (hld : ∀ x ∈ l, evalLd P E (enc x) 0 = some (enc x)) :
    Ok P g [.sl n (l.map enc), .fn (.func f) fi ca] (int (idxF p l)) := okF hf (by simp) (x93 hS hE enc l p hlen hp hcl hld _ _)
theorem xbj {a b : List AV} (ha : closeds a = true) (hb : closeds b = true) : closeds (a ++ b) = true := by
  induction a with
  | nil => exact hb
  | cons x a ih =>
    simp only [closeds, Bool.and_eq_true] at ha
    simp only [List.cons_append, closeds, Bool.and_eq_true]
    exact ⟨ha.1, ih ha.2⟩
def conAC (g : FuncId) (S F : TypeId) : AC := (.seq (.region [⟨.assign (.const (Value.bool false)), some 4, none⟩])
 (.seq (.region [⟨.move (.tmp 0), some 5, none⟩,
  ⟨.move (.tmp 1), some 6, none⟩,
  ⟨.call (Go.Call.mk (.value (.func g)) #[.tmp 5, .tmp 6] #[S, F]), some 7, none⟩,
  ⟨.binOp .geq 3 (.tmp 7) (.const (Value.int .i64 0)) 3, some 8, none⟩,
  ⟨.assign (.tmp 8), some 4, none⟩])
 .ret))
end Go.Proofs.YtfefidkblgendaaGreatDoor.AL

