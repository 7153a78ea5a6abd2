/- A law of the given program is proved: part 31 of 50. -/
import Derived.Test.YtefdlpandfhcgaaDoorA30
set_option linter.all false
/- Bundles of equations for the walks: printed by bundle.py. -/
set_option linter.all false
namespace Go.Proofs.YtefdlpandfhcgaaDoor.AL
def EV := aI (aI (aI (aI (aI (aI (aI (@opR_t) (aI (@opR_f) (@gR_tt))) (aI (@gR_ff) (aI (@gR_tf) (@gR_ft)))) (aI (aI (@xly) (aI (@x9t) (@xuu))) (aI (aI (@opV_f) (@x4t)) (aI (@x5x) (@mem_c))))) (aI (aI (aI (@mem_n) (aI (@xf0) (@xiy))) (aI (@opD_t) (aI (@opD_f) (@gD_tt)))) (aI (aI (@gD_ff) (aI (@gD_tf) (@gD_ft))) (aI (aI (@xwy) (@x5s)) (aI (@x9u) (@tstR_t)))))) (aI (aI (aI (aI (@tstR_f) (aI (@brR_t) (@brR_f))) (aI (@argT_0) (aI (@argT_1) (@argT_2)))) (aI (aI (@x1u) (aI (@xpy) (@xbw))) (aI (aI (@xcw) (@xvt)) (aI (@x6r) (@ev_tmp))))) (aI (aI (aI (@xax) (aI (@xkr) (@xup))) (aI (@x4r) (aI (@x0o) (@xrr)))) (aI (aI (@E_move) (aI (@xwx) (@xfu))) (aI (aI (@CV_val) (@E_pick)) (aI (@x5z) (@xg1))))))) (aI (aI (aI (aI (aI (@E_load) (aI (@xo0) (@xfr))) (aI (@x3w) (aI (@E_len) (@xcz)))) (aI (aI (@xxs) (aI (@xay) (@xyx))) (aI (aI (@E_bin) (@E_binI)) (aI (@E_binS) (@E_binN))))) (aI (aI (aI (@B_add) (aI (@B_sub) (@B_mul))) (aI (@B_quo) (aI (@B_rem) (@B_eql)))) (aI (aI (@B_neq) (aI (@B_lss) (@B_leq))) (aI (aI (@B_gtr) (@B_geq)) (aI (@S_eql) (@S_neq)))))) (aI (aI (aI (aI (@S_add) (aI (@E_not) (@notK_b))) (aI (@xyr) (aI (@xk0) (@xer)))) (aI (aI (@xd1) (aI (@xez) (@xdt))) (aI (aI (@xmu) (@xnp)) (aI (@xxy) (@xdy))))) (aI (aI (aI (@x5u) (aI (@x7r) (@xdw))) (aI (aI (@xlv) (@xuv)) (aI (@xzu) (@xey)))) (aI (aI (@xut) (aI (@decide_true) (@decide_false))) (aI (aI (@Nat.zero_add) (@Nat.add_zero)) (aI (@and_true) (@true_and)))))))) (aI (aI (aI (aI (aI (aI (@and_self) (aI (@not_true_eq_false) (@not_false_eq_true))) (aI (@false_implies) (aI (@true_implies) (@Bool.false_eq_true)))) (aI (aI (@Bool.true_eq_false) (aI (@or_self) (@or_false))) (aI (aI (@or_true) (@true_or)) (aI (@Bool.and_true) (@Bool.true_and))))) (aI (aI (aI (@xh0) (aI (@xvv) (@x1w))) (aI (@x0x) (aI (@hs_int) (@xd0)))) (aI (aI (@hs_str) (aI (@hs_msl) (@hs_ptr))) (aI (aI (@hs_mp) (@Nat.add_assoc)) (aI (@Nat.add_left_cancel_iff) (@Nat.add_lt_add_iff_left)))))) (aI (aI (aI (aI (@xcv) (aI (@xvx) (@xpr))) (aI (@hs_agg) (aI (@xqx) (@x70)))) (aI (aI (@xbz) (aI (@xm0) (@x9y))) (aI (aI (@one_sl) (@x20)) (aI (@one_mp) (@Bool.and_self))))) (aI (aI (aI (@xyu) (aI (@xrt) (@x4x))) (aI (@x8u) (aI (@xys) (@xot)))) (aI (aI (@x0s) (aI (@xrs) (@x5w))) (aI (aI (@x0l) (@xst)) (aI (@x6v) (@xkt))))))) (aI (aI (aI (aI (aI (@xht) (aI (@xjr) (@xlr))) (aI (@xss) (aI (@x2s) (@x0t)))) (aI (aI (@xju) (aI (@x1r) (@xwr))) (aI (aI (@x5r) (@xgr)) (aI (@x6s) (@xnw))))) (aI (aI (aI (@x7v) (aI (@xxt) (@xgo))) (aI (@xmw) (aI (@xbv) (@x6x)))) (aI (aI (@x2t) (aI (@xts) (@xvy))) (aI (aI (@xjy) (@xtw)) (aI (@xfy) (@xsz)))))) (aI (aI (aI (aI (@xtv) (aI (@x8s) (@x6u))) (aI (@xzt) (aI (@x3x) (@x4y)))) (aI (aI (@Nat.left_eq_add) (aI (@Nat.add_eq_left) (@Nat.add_eq_right))) (aI (aI (@Nat.lt_add_right_iff_pos) (@xgu)) (aI (@xz0) (@s0_nil))))) (aI (aI (aI (@xjz) (aI (@z_tb) (@z_bne))) (aI (aI (@z_subl) (@z_btt)) (aI (@z_btf) (@z_bft)))) (aI (aI (@z_bff) (aI (@Bool.not_true) (@Bool.not_false))) (aI (aI (@xgx) (@xsw)) (aI (@x2w) (@x7w))))))))
def EVd := aI (aI (aI (aI (aI (@x2x) (@xfw)) (aI (@xow) (@xnu))) (aI (aI (@xps) (@xws)) (aI (@xkv) (aI (@x7t) (@upd_at))))) (aI (aI (aI (@C_skip) (@C_ret)) (aI (@C_exit) (aI (@C_goto) (@x9x)))) (aI (aI (@C_draw) (@xb0)) (aI (@C_seq) (aI (@C_cond) (@xnz)))))) (aI (aI (aI (aI (@C_loop) (@xgz)) (aI (@Q_seqN) (aI (@Q_seqE) (@Q_seqR)))) (aI (aI (@xhy) (@xqw)) (aI (@xlx) (aI (@Q_finN) (@Q_finR))))) (aI (aI (aI (@xgy) (@xxx)) (aI (@xnx) (aI (@x5v) (@xu0)))) (aI (aI (@x80) (@X_ret)) (aI (@xkx) (aI (@xsy) (@L_goto))))))
def R1 := @ld_1
def R2 := @ld_2
def R3 := aI (@ld_3) (aI (@st_3) (@bx_3))
def R4 := aI (@st_4) (aI (@bq_4) (@bn_4))
def R5 := @ld_5
def R9 := aI (@ld_9) (aI (@lB_9) (@iB_9))
def R23 := aI (aI (aI (@ld_23) (@st_23)) (aI (@bx_23) (@al_23))) (aI (aI (@xc0) (@xf1)) (aI (@xkz) (@bd_23)))
def R32 := aI (@ld_32) (aI (@iS_32) (@lS_32))
def R34 := aI (aI (@ld_34) (@bx_34)) (aI (@xw0) (@xhz))
def R35 := aI (@ld_35) (aI (@iS_35) (@lS_35))
def R37 := aI (aI (@ld_37) (@bx_37)) (aI (@xqz) (@x5y))
def R39 := aI (@ld_39) (aI (@iS_39) (@lS_39))
def R40 := aI (aI (@ld_40) (@iS_40)) (aI (@lS_40) (@lN_40))
def R42 := aI (@ld_42) (aI (@xdz) (@xh1))
def R44 := aI (aI (aI (@ld_44) (aI (@st_44) (@bx_44))) (aI (aI (@al_44) (@xuz)) (aI (@xn0) (@xt0)))) (aI (aI (@xr0) (aI (@x00) (@xoz))) (aI (aI (@xq0) (@x2z)) (aI (@xg0) (@bd_44))))
def R51 := aI (aI (aI (@ld_51) (@st_51)) (aI (@bx_51) (@al_51))) (aI (aI (@xx0) (@xwz)) (aI (@xj0) (aI (@x7y) (@xi1))))
def R57 := aI (aI (@st_57) (@al_57)) (aI (@bd_57) (@iL_57))
def R58 := aI (aI (@ld_58) (@st_58)) (aI (@al_58) (@bd_58))
def R63 := aI (@al_63) (@iL_63)
def R75 := aI (aI (@bx_75) (@x8z)) (aI (@xi0) (@bd_75))
def DOrigin := aI (aI (@xqv) (aI (@xiw) (@xrv))) (aI (aI (@xou) (@xsr)) (aI (@x3r) (@xqr)))
def DEntry := aI (aI (@x8x) (aI (@x4w) (@xrx))) (aI (@xns) (aI (@xat) (@xms)))
def DNode := aI (aI (aI (@x8y) (aI (@xmz) (@x6y))) (aI (aI (@xev) (@xkw)) (aI (@xpu) (@x8v)))) (aI (aI (@x7u) (aI (@xdv) (@x2u))) (aI (aI (@xov) (@x2r)) (aI (@xqu) (@xiu))))
def DBranch := aI (aI (@xnv) (@xau)) (aI (@xct) (@xjv))
def DStack := aI (aI (@xfx) (@xsx)) (aI (@x1q) (@xgt))
def xyp := aI (aI (@xft) (aI (@xbt) (@x3s))) (aI (aI (@xtp) (@xuq)) (aI (@x9p) (@xqp)))
def x9k := aI (@xin) (aI (@x2n) (@xtn))
def xbx := aI (aI (@xgq) (aI (@xeq) (@xdq))) (aI (@xwq) (aI (@x0q) (@xbq)))
def DPlace := aI (@xzx) (aI (@x1t) (@x5t))
def CLO := aI (aI (aI (aI (@xac) (aI (@cM_u8) (@x6b))) (aI (@xlc) (aI (@xvc) (@xpd)))) (aI (aI (@c_Node) (aI (@x0c) (@xbd))) (aI (@x6d) (aI (@xng) (@cM_Way))))) (aI (aI (aI (@xjt) (aI (@x5q) (@xmr))) (aI (@xbr) (aI (@xoq) (@xiq)))) (aI (aI (@xur) (aI (@x1o) (@x1n))) (aI (@Bool.and_true) (aI (@Bool.true_and) (@Bool.and_self)))))
end Go.Proofs.YtefdlpandfhcgaaDoor.AL

