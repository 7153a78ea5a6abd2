/- A law of the given program is proved: part 28 of 45. -/
import Derived.Test.YtjmnoaoeediodaaDoorB27
set_option linter.all false
/- Bundles of equations for the walks: printed by bundle.py. -/
set_option linter.all false
namespace Go.Proofs.YtjmnoaoeediodaaDoor.AL
def EV := aI (aI (aI (aI (aI (aI (aI (@opR_t) (@opR_f)) (aI (@gR_tt) (aI (@gR_ff) (@gR_tf)))) (aI (aI (@gR_ft) (aI (@xzw) (@xbs))) (aI (@xfu) (aI (@x9t) (@opD_t))))) (aI (aI (aI (@opD_f) (aI (@gD_tt) (@gD_ft))) (aI (@xas) (aI (@xyu) (@tstR_t)))) (aI (aI (@tstR_f) (aI (@brR_t) (@brR_f))) (aI (@argT_0) (aI (@argT_1) (@xau)))))) (aI (aI (aI (aI (@xlx) (@xbu)) (aI (@x8t) (aI (@xnt) (@xhr)))) (aI (aI (@ev_tmp) (aI (@x3w) (@xjr))) (aI (@xjq) (aI (@xyq) (@x2o))))) (aI (aI (aI (@E_move) (aI (@xgx) (@xiv))) (aI (@CV_val) (aI (@CV_msl) (@CM_row)))) (aI (aI (@E_pick) (aI (@xbz) (@xnz))) (aI (@E_load) (aI (@xzy) (@x8w))))))) (aI (aI (aI (aI (aI (@E_len) (@xwz)) (aI (@xgs) (aI (@xrw) (@E_bin)))) (aI (aI (@E_binI) (aI (@E_binS) (@E_binN))) (aI (@B_add) (aI (@B_sub) (@B_mul))))) (aI (aI (aI (@B_quo) (aI (@B_rem) (@B_eql))) (aI (@B_neq) (aI (@B_lss) (@B_leq)))) (aI (aI (@B_gtr) (aI (@B_geq) (@S_eql))) (aI (@S_neq) (aI (@S_add) (@E_not)))))) (aI (aI (aI (aI (@E_neg) (@negK_i)) (aI (@notK_b) (aI (@x5q) (@xer)))) (aI (aI (@xpy) (aI (@xvz) (@xeu))) (aI (@xip) (aI (@x1w) (@xjx))))) (aI (aI (aI (@x4t) (aI (@xmr) (@xku))) (aI (@xit) (aI (@xfv) (@xqx)))) (aI (aI (@xxs) (aI (@decide_true) (@decide_false))) (aI (@Nat.zero_add) (aI (@Nat.add_zero) (@and_true)))))))) (aI (aI (aI (aI (aI (aI (@true_and) (@and_self)) (aI (@not_true_eq_false) (aI (@not_false_eq_true) (@false_implies)))) (aI (aI (@true_implies) (aI (@Bool.false_eq_true) (@Bool.true_eq_false))) (aI (@or_self) (aI (@or_false) (@true_or))))) (aI (aI (aI (@Bool.and_true) (aI (@Bool.true_and) (@xfz))) (aI (@xtt) (aI (@x9v) (@xfw)))) (aI (aI (@hs_int) (aI (@xty) (@hs_str))) (aI (@hs_msl) (aI (@hs_loc) (@Nat.add_assoc)))))) (aI (aI (aI (aI (@Nat.add_left_cancel_iff) (@Nat.add_lt_add_iff_left)) (aI (@hs_agg) (aI (@xpv) (@xgz)))) (aI (aI (@xcy) (aI (@xww) (@x6x))) (aI (@xoz) (aI (@x1y) (@Bool.and_self))))) (aI (aI (aI (@xws) (aI (@xzx) (@xav))) (aI (@xns) (aI (@xat) (@xqt)))) (aI (aI (@xet) (aI (@xev) (@x8u))) (aI (@xll) (aI (@xzm) (@xvo))))))) (aI (aI (aI (aI (aI (@xgt) (@xot)) (aI (@x8q) (aI (@x7q) (@xmt)))) (aI (aI (@x5s) (aI (@x7s) (@xmu))) (aI (@xzq) (aI (@x0q) (@xcr))))) (aI (aI (aI (@xdr) (aI (@x8s) (@xdv))) (aI (@xnu) (aI (@xdt) (@x5n)))) (aI (aI (@xio) (aI (@xzt) (@x1s))) (aI (@xps) (aI (@xlw) (@x4v)))))) (aI (aI (aI (aI (@xuw) (aI (@xex) (@x8x))) (aI (@xru) (aI (@x9s) (@xju)))) (aI (aI (@xcs) (aI (@xrx) (@Nat.left_eq_add))) (aI (@Nat.add_eq_left) (aI (@Nat.add_eq_right) (@Nat.lt_add_right_iff_pos))))) (aI (aI (aI (@x7x) (aI (@xjy) (@z_tb))) (aI (@z_bne) (aI (@z_btt) (@z_btf)))) (aI (aI (@z_bft) (aI (@z_bff) (@Bool.not_true))) (aI (@Bool.not_false) (aI (@xsx) (@xwv))))))))
def EVd := aI (aI (aI (aI (@xew) (aI (@x1t) (@xwu))) (aI (aI (@xsu) (@x6s)) (aI (@xjt) (@upd_at)))) (aI (aI (aI (@C_skip) (@C_ret)) (aI (@C_exit) (@xtv))) (aI (aI (@C_draw) (@C_seq)) (aI (@C_cond) (@xhz))))) (aI (aI (aI (aI (@C_loop) (@Q_seqN)) (aI (@Q_seqE) (@Q_seqR))) (aI (aI (@xkw) (@x1x)) (aI (@xvx) (@Q_finR)))) (aI (aI (aI (@x7v) (@x1v)) (aI (@xry) (@retR_3))) (aI (aI (@x3v) (@xix)) (aI (@xxy) (@X_ret)))))
def R1 := @ld_1
def R2 := @ld_2
def R3 := aI (@ld_3) (@st_3)
def R4 := aI (aI (@ld_4) (@st_4)) (aI (@bq_4) (@bn_4))
def R9 := aI (@ld_9) (aI (@lB_9) (@iB_9))
def R23 := aI (aI (aI (@ld_23) (@st_23)) (aI (@bx_23) (@al_23))) (aI (aI (@x4y) (@xuy)) (aI (@x7y) (aI (@xyy) (@bd_23))))
def R36 := aI (aI (aI (@ld_36) (@st_36)) (aI (@bx_36) (@al_36))) (aI (aI (@x5y) (@x0y)) (aI (@xez) (aI (@xny) (@bd_36))))
def R37 := aI (aI (@ld_37) (aI (@st_37) (@iS_37))) (aI (@ap_37) (aI (@bS_37) (@lS_37)))
def R39 := aI (aI (aI (@ld_39) (@st_39)) (aI (@bx_39) (@al_39))) (aI (aI (@x9x) (@xdy)) (aI (@xwy) (@bd_39)))
def R53 := aI (@iS_53) (aI (@bS_53) (@lS_53))
def R55 := @ld_55
def R56 := aI (aI (@st_56) (@al_56)) (aI (@bd_56) (@iL_56))
def R68 := @bS_68
def R92 := aI (@iM_92) (aI (@bS_92) (@lM_92))
def DFinding := aI (aI (aI (@xvs) (aI (@xpt) (@xrs))) (aI (@xfs) (aI (@xxq) (@xmq)))) (aI (aI (@xwp) (aI (@x8p) (@x3p))) (aI (@xlq) (aI (@xrp) (@xtq))))
def DAnswer := aI (aI (aI (@xvu) (@x0u)) (aI (@xiu) (@x9u))) (aI (aI (@xrr) (@xnr)) (aI (@xbr) (@xwr)))
def DScript := aI (aI (@xmv) (aI (@x3t) (@xjv))) (aI (@xpr) (aI (@x9q) (@xtr)))
def ZL := aI (aI (aI (@xio) (@x5n)) (aI (@xzm) (@xvo))) (aI (aI (@Nat.zero_add) (@Nat.add_zero)) (aI (@Nat.add_assoc) (@Nat.one_mul)))
def CLO := aI (aI (aI (@x0g) (aI (@xjg) (@xco))) (aI (aI (@xxl) (@xtx)) (aI (@xdq) (@xqr)))) (aI (aI (@xqp) (aI (@xvq) (@xxo))) (aI (aI (@xmn) (@Bool.and_true)) (aI (@Bool.true_and) (@Bool.and_self))))
end Go.Proofs.YtjmnoaoeediodaaDoor.AL

