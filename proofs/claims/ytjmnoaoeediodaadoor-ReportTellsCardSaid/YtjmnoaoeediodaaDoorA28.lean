/- A law of the given program is proved: part 28 of 40. -/
import Derived.Test.YtjmnoaoeediodaaDoorA27
set_option linter.all false
/- Bundles of equations for the walks: printed by bundle.py. -/
set_option linter.all false
namespace Go.Proofs.YtjmnoaoeediodaaDoor.AL
def EV := aI (aI (aI (aI (aI (aI (aI (@opR_t) (@opR_f)) (aI (@gR_tt) (aI (@gR_ff) (@gR_tf)))) (aI (aI (@gR_ft) (aI (@xbs) (@xso))) (aI (@xzq) (aI (@xup) (@opD_t))))) (aI (aI (aI (@opD_f) (@gD_tt)) (aI (@gD_ff) (aI (@gD_tf) (@gD_ft)))) (aI (aI (@x6r) (aI (@xuo) (@xhq))) (aI (@tstR_t) (aI (@tstR_f) (@brR_t)))))) (aI (aI (aI (aI (@brR_f) (@argT_0)) (aI (@argT_1) (aI (@argT_2) (@xeq)))) (aI (aI (@x3r) (aI (@xar) (@x5q))) (aI (@x4o) (aI (@xsn) (@ev_tmp))))) (aI (aI (aI (@xls) (@xtn)) (aI (@xkm) (aI (@xrn) (@xul)))) (aI (aI (@E_move) (aI (@xgr) (@xtq))) (aI (@CV_val) (aI (@CV_msl) (@CM_row))))))) (aI (aI (aI (aI (aI (@E_pick) (@xou)) (aI (@xfu) (aI (@E_load) (@xeu)))) (aI (aI (@xps) (aI (@E_len) (@xut))) (aI (@x7o) (aI (@xes) (@E_bin))))) (aI (aI (aI (@E_binI) (@E_binS)) (aI (@E_binN) (aI (@B_add) (@B_sub)))) (aI (aI (@B_mul) (aI (@B_quo) (@B_rem))) (aI (@B_eql) (aI (@B_neq) (@B_lss)))))) (aI (aI (aI (aI (@B_leq) (@B_gtr)) (aI (@B_geq) (aI (@S_eql) (@S_neq)))) (aI (aI (@S_add) (aI (@E_not) (@E_neg))) (aI (@negK_i) (aI (@notK_b) (@xun))))) (aI (aI (aI (@xen) (@xnt)) (aI (@xgt) (aI (@xwp) (@xvm)))) (aI (aI (@x4r) (aI (@xvs) (@xxq))) (aI (@xzn) (aI (@xmq) (@xnq)))))))) (aI (aI (aI (aI (aI (aI (@xnr) (@xmp)) (aI (@decide_true) (aI (@decide_false) (@Nat.zero_add)))) (aI (aI (@Nat.add_zero) (aI (@and_true) (@true_and))) (aI (@and_self) (aI (@not_true_eq_false) (@not_false_eq_true))))) (aI (aI (aI (@false_implies) (@true_implies)) (aI (@Bool.false_eq_true) (aI (@Bool.true_eq_false) (@or_self)))) (aI (aI (@or_false) (aI (@Bool.and_true) (@Bool.true_and))) (aI (@xhu) (aI (@xpq) (@xzr)))))) (aI (aI (aI (aI (@xur) (@hs_int)) (aI (@hs_str) (aI (@hs_msl) (@hs_loc)))) (aI (aI (@Nat.add_assoc) (aI (@Nat.add_left_cancel_iff) (@Nat.add_lt_add_iff_left))) (aI (@hs_agg) (aI (@xhs) (@x4t))))) (aI (aI (aI (@x1t) (@x3t)) (aI (@Bool.and_self) (aI (@x3o) (@xfs)))) (aI (aI (@xdr) (aI (@xoo) (@xko))) (aI (@xsp) (aI (@xyo) (@xaq))))))) (aI (aI (aI (aI (aI (@xrq) (@x8i)) (aI (@xnp) (aI (@x6p) (@xfp)))) (aI (aI (@x6o) (aI (@xyn) (@xwn))) (aI (@xlp) (aI (@xjp) (@xmo))))) (aI (aI (aI (@xcr) (@xin)) (aI (@x0n) (aI (@xvn) (@x5n)))) (aI (aI (@xdp) (aI (@x9p) (@xjq))) (aI (@xop) (aI (@x1p) (@x0p)))))) (aI (aI (aI (aI (@xxo) (@x5o)) (aI (@x2r) (aI (@xwr) (@xkt)))) (aI (aI (@xbq) (aI (@xrp) (@x8p))) (aI (@xwo) (aI (@Nat.left_eq_add) (@Nat.add_eq_left))))) (aI (aI (aI (@Nat.add_eq_right) (aI (@Nat.lt_add_right_iff_pos) (@z_tb))) (aI (@z_bne) (aI (@z_btt) (@z_btf)))) (aI (aI (@z_bft) (aI (@z_bff) (@Bool.not_true))) (aI (@Bool.not_false) (aI (@x7r) (@x8s))))))))
def EVd := aI (aI (aI (aI (@xds) (aI (@xvp) (@xyp))) (aI (aI (@xfq) (@xro)) (aI (@xjo) (@upd_at)))) (aI (aI (aI (@C_skip) (@C_ret)) (aI (@C_exit) (@x5s))) (aI (aI (@C_draw) (@C_seq)) (aI (@C_cond) (@xvt))))) (aI (aI (aI (aI (@C_loop) (@Q_seqN)) (aI (@Q_seqE) (@Q_seqR))) (aI (aI (@xqs) (@xjr)) (aI (@x5r) (@Q_finR)))) (aI (aI (aI (@xws) (@xer)) (aI (@xqt) (@retR_3))) (aI (aI (@xvr) (@xzs)) (aI (@xrt) (@X_ret)))))
def R1 := @ld_1
def R2 := @ld_2
def R3 := aI (@ld_3) (@st_3)
def R4 := aI (@ld_4) (aI (@bq_4) (@bn_4))
def R9 := aI (@ld_9) (aI (@lB_9) (@iB_9))
def R23 := aI (aI (aI (@ld_23) (@st_23)) (aI (@bx_23) (@al_23))) (aI (aI (@xot) (@xcu)) (aI (@xmu) (aI (@xjt) (@bd_23))))
def R30 := aI (aI (@ld_30) (@iS_30)) (aI (@bS_30) (@lS_30))
def R32 := aI (aI (aI (@ld_32) (@bx_32)) (aI (@x9t) (aI (@xku) (@xpt)))) (aI (aI (@x7t) (aI (@xht) (@xlt))) (aI (@xit) (aI (@xpu) (@bd_32))))
def R53 := aI (@iS_53) (aI (@bS_53) (@lS_53))
def R55 := @ld_55
def R56 := aI (aI (@st_56) (@al_56)) (aI (@bd_56) (@iL_56))
def R68 := @bS_68
def DFinding := aI (aI (aI (@xhp) (aI (@xgp) (@xip))) (aI (@xzo) (aI (@x0m) (@xym)))) (aI (aI (@xdm) (aI (@xdn) (@xcm))) (aI (@xem) (aI (@x9m) (@x3m))))
def DReport := aI (aI (aI (@x2q) (@xoq)) (aI (@x4n) (aI (@xgn) (@xfn)))) (aI (aI (@xqn) (@xmn)) (aI (@xpn) (aI (@x1n) (@xjn))))
def CLO := aI (aI (aI (@x0j) (@xfi)) (aI (@xfr) (aI (@x9l) (@xon)))) (aI (aI (@xom) (aI (@xsl) (@xzk))) (aI (@Bool.and_true) (aI (@Bool.true_and) (@Bool.and_self))))
end Go.Proofs.YtjmnoaoeediodaaDoor.AL

