/- A law of the given program is proved: part 28 of 47. -/
import Derived.Test.YtjmnoaoeediodaaDoorC27
set_option linter.all false
/- Bundles of equations for the walks: printed by bundle.py. -/
set_option linter.all false
namespace Go.Proofs.YtjmnoaoeediodaaDoor.AL
def EV := aI (aI (aI (aI (aI (aI (aI (@opR_t) (@opR_f)) (aI (@gR_tt) (aI (@gR_ff) (@gR_tf)))) (aI (aI (@gR_ft) (aI (@xqy) (@xwv))) (aI (@xkx) (aI (@x5x) (@opD_t))))) (aI (aI (aI (@opD_f) (aI (@gD_tt) (@gD_ff))) (aI (@gD_tf) (aI (@gD_ft) (@x6z)))) (aI (aI (@x8u) (aI (@x0w) (@tstR_t))) (aI (@tstR_f) (aI (@brR_t) (@brR_f)))))) (aI (aI (aI (aI (@argT_0) (aI (@argT_1) (@argT_2))) (aI (@x3x) (aI (@xry) (@xjx)))) (aI (aI (@xbx) (aI (@xov) (@xmt))) (aI (@ev_tmp) (aI (@x3z) (@xbt))))) (aI (aI (aI (@xtr) (aI (@x9t) (@xer))) (aI (@E_move) (aI (@xvy) (@xgx)))) (aI (aI (@CV_val) (aI (@CV_msl) (@CM_row))) (aI (@E_pick) (aI (@xw1) (@xl1))))))) (aI (aI (aI (aI (aI (@E_load) (@xm2)) (aI (@x8y) (aI (@E_len) (@xw0)))) (aI (aI (@xuv) (aI (@xiz) (@E_bin))) (aI (@E_binI) (aI (@E_binS) (@E_binN))))) (aI (aI (aI (@B_add) (aI (@B_sub) (@B_mul))) (aI (@B_quo) (aI (@B_rem) (@B_eql)))) (aI (aI (@B_neq) (aI (@B_lss) (@B_leq))) (aI (@B_gtr) (aI (@B_geq) (@S_eql)))))) (aI (aI (aI (aI (@S_neq) (aI (@S_add) (@E_not))) (aI (@E_neg) (aI (@negK_i) (@notK_b)))) (aI (aI (@xjt) (aI (@xot) (@xo1))) (aI (@xx0) (aI (@x6w) (@x7r))))) (aI (aI (aI (@xb0) (aI (@xi0) (@xwx))) (aI (@xxt) (aI (@xrx) (@xwu)))) (aI (aI (@xvx) (aI (@x9z) (@xyv))) (aI (@decide_true) (aI (@decide_false) (@Nat.zero_add)))))))) (aI (aI (aI (aI (aI (aI (@Nat.add_zero) (@and_true)) (aI (@true_and) (aI (@and_self) (@not_true_eq_false)))) (aI (aI (@not_false_eq_true) (aI (@false_implies) (@true_implies))) (aI (@Bool.false_eq_true) (aI (@Bool.true_eq_false) (@or_self))))) (aI (aI (aI (@or_false) (aI (@true_or) (@Bool.and_true))) (aI (@Bool.true_and) (aI (@xo2) (@xpx)))) (aI (aI (@x0y) (aI (@x0z) (@hs_int))) (aI (@xz1) (aI (@hs_str) (@hs_msl)))))) (aI (aI (aI (aI (@hs_loc) (aI (@Nat.add_assoc) (@Nat.add_left_cancel_iff))) (aI (@Nat.add_lt_add_iff_left) (aI (@hs_agg) (@xh0)))) (aI (aI (@xu0) (aI (@xd1) (@xiy))) (aI (@xp2) (aI (@x31) (@xh1))))) (aI (aI (aI (@Bool.and_self) (aI (@xqu) (@x9x))) (aI (@xyx) (aI (@x1u) (@xjv)))) (aI (aI (@xzv) (aI (@xsv) (@xex))) (aI (@xmw) (aI (@xln) (@x9o))))))) (aI (aI (aI (aI (aI (@x1q) (aI (@xcv) (@x3u))) (aI (@x4t) (aI (@xat) (@xfv)))) (aI (aI (@xgv) (aI (@xvv) (@xux))) (aI (@xlt) (aI (@x1t) (@xwt))))) (aI (aI (aI (@xht) (aI (@xvu) (@xnx))) (aI (@xtx) (aI (@x0u) (@xfq)))) (aI (aI (@x3q) (aI (@x9w) (@x0v))) (aI (@x2u) (aI (@xyy) (@xty)))))) (aI (aI (aI (aI (@xrz) (aI (@xxy) (@xd2))) (aI (@xgw) (aI (@xbv) (@xxw)))) (aI (aI (@xev) (aI (@xjz) (@Nat.left_eq_add))) (aI (@Nat.add_eq_left) (aI (@Nat.add_eq_right) (@Nat.lt_add_right_iff_pos))))) (aI (aI (aI (@xr2) (aI (@xb2) (@z_tb))) (aI (@z_bne) (aI (@z_btt) (@z_btf)))) (aI (aI (@z_bft) (aI (@z_bff) (@Bool.not_true))) (aI (@Bool.not_false) (aI (@xf0) (@x1y))))))))
def EVd := aI (aI (aI (aI (@xgy) (aI (@xlw) (@xlx))) (aI (aI (@xvw) (@xpv)) (aI (@x3v) (@upd_at)))) (aI (aI (aI (@C_skip) (@C_ret)) (aI (@C_exit) (@xsy))) (aI (aI (@C_draw) (@C_seq)) (aI (@C_cond) (@x01))))) (aI (aI (aI (aI (@C_loop) (@Q_seqN)) (aI (@Q_seqE) (@Q_seqR))) (aI (aI (@x7y) (@x2y)) (aI (@xby) (@Q_finR)))) (aI (aI (aI (@x9y) (@xmy)) (aI (@xa2) (@retR_3))) (aI (aI (@xsz) (@xdy)) (aI (@xt1) (@X_ret)))))
def R1 := @ld_1
def R2 := @ld_2
def R3 := aI (@ld_3) (@st_3)
def R4 := aI (aI (@ld_4) (@st_4)) (aI (@bq_4) (@bn_4))
def R9 := aI (@ld_9) (aI (@lB_9) (@iB_9))
def R23 := aI (aI (aI (@ld_23) (@st_23)) (aI (@bx_23) (@al_23))) (aI (aI (@x80) (@xq2)) (aI (@xo0) (aI (@xs0) (@bd_23))))
def R30 := aI (aI (@ld_30) (@iS_30)) (aI (@bS_30) (@lS_30))
def R32 := aI (aI (aI (@ld_32) (@bx_32)) (aI (@xp1) (aI (@xj2) (@xp0)))) (aI (aI (@xs1) (aI (@x51) (@x81))) (aI (@xv1) (aI (@xb1) (@bd_32))))
def R36 := aI (aI (aI (@ld_36) (@st_36)) (aI (@bx_36) (@al_36))) (aI (aI (@xc1) (@xc2)) (aI (@xr1) (aI (@x21) (@bd_36))))
def R37 := aI (aI (@ld_37) (aI (@st_37) (@iS_37))) (aI (@ap_37) (aI (@bS_37) (@lS_37)))
def R39 := aI (aI (aI (@ld_39) (@st_39)) (aI (@bx_39) (@al_39))) (aI (aI (@xt0) (@xv0)) (aI (@xk1) (@bd_39)))
def R53 := aI (@iS_53) (aI (@bS_53) (@lS_53))
def R55 := @ld_55
def R56 := aI (aI (@st_56) (@al_56)) (aI (@bd_56) (@iL_56))
def R68 := @bS_68
def R92 := aI (@iM_92) (aI (@bS_92) (@lM_92))
def DFinding := aI (aI (aI (@xkv) (aI (@x1v) (@x4u))) (aI (@xxu) (aI (@xvs) (@xos)))) (aI (aI (@xur) (aI (@xxs) (@xks))) (aI (@x4r) (aI (@x1s) (@x2r))))
def DReport := aI (aI (aI (@xqx) (@xqw)) (aI (@xtt) (aI (@xct) (@x8t)))) (aI (aI (@xvt) (@xyt)) (aI (@x7t) (aI (@xnt) (@xkt))))
def DAnswer := aI (aI (aI (@xxx) (@xyw)) (aI (@xfx) (@xtw))) (aI (aI (@xqt) (@xit)) (aI (@xbu) (@x8s)))
def DScript := aI (aI (@xzw) (aI (@x2x) (@xsw))) (aI (@xft) (aI (@xrt) (@xcu)))
def ZL := aI (aI (aI (@x3q) (@xfq)) (aI (@x9o) (@x1q))) (aI (aI (@Nat.zero_add) (@Nat.add_zero)) (aI (@Nat.add_assoc) (@Nat.one_mul)))
def CLO := aI (aI (aI (@xgi) (aI (@xwh) (@xqk))) (aI (aI (@xkq) (@x0n)) (aI (@xnz) (@xcs)))) (aI (aI (aI (@x5t) (@xls)) (aI (@x5s) (@x6q))) (aI (aI (@x6p) (@Bool.and_true)) (aI (@Bool.true_and) (@Bool.and_self))))
end Go.Proofs.YtjmnoaoeediodaaDoor.AL

