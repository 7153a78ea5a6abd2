/- A law of the given program is proved: part 31 of 51. -/
import Derived.Test.YtefdlpandfhcgaaDoorB30
set_option linter.all false
/- Bundles of equations for the walks: printed by bundle.py. -/
set_option linter.all false
namespace Go.Proofs.YtefdlpandfhcgaaDoor.AL
def EV := aI (aI (aI (aI (aI (aI (aI (@opR_t) (aI (@opR_f) (@gR_tt))) (aI (@gR_ff) (aI (@gR_tf) (@gR_ft)))) (aI (aI (@x82) (aI (@xkw) (@xxy))) (aI (aI (@xkz) (@opV_f)) (aI (@xnx) (@x70))))) (aI (aI (aI (@mem_c) (aI (@mem_n) (@x34))) (aI (@xo1) (aI (@opD_t) (@opD_f)))) (aI (aI (@gD_tt) (aI (@gD_ff) (@gD_tf))) (aI (aI (@gD_ft) (@xt3)) (aI (@x5w) (@xry)))))) (aI (aI (aI (aI (@tstR_t) (aI (@tstR_f) (@brR_t))) (aI (@brR_f) (aI (@argT_0) (@argT_1)))) (aI (aI (@argT_2) (aI (@xqy) (@xz2))) (aI (aI (@xo0) (@xp0)) (aI (@xqx) (@xav))))) (aI (aI (aI (@ev_tmp) (aI (@xi3) (@xjv))) (aI (aI (@xiu) (@xov)) (aI (@xqs) (@xfv)))) (aI (aI (@E_move) (aI (@xg1) (@x9y))) (aI (aI (@CV_val) (@E_pick)) (aI (@xq4) (@xa6))))))) (aI (aI (aI (aI (aI (@E_load) (aI (@xu5) (@x7u))) (aI (@xu2) (aI (@E_len) (@xw3)))) (aI (aI (@xsx) (aI (@xg3) (@xv0))) (aI (aI (@E_bin) (@E_binI)) (aI (@E_binS) (@E_binN))))) (aI (aI (aI (@B_add) (aI (@B_sub) (@B_mul))) (aI (aI (@B_quo) (@B_rem)) (aI (@B_and) (@B_eql)))) (aI (aI (@B_neq) (aI (@B_lss) (@B_leq))) (aI (aI (@B_gtr) (@B_geq)) (aI (@S_eql) (@S_neq)))))) (aI (aI (aI (aI (@S_add) (aI (@E_not) (@notK_b))) (aI (@xyu) (aI (@xp5) (@xqv)))) (aI (aI (@x84) (aI (@xy5) (@xmw))) (aI (aI (@xcz) (@xqt)) (aI (@xv2) (@xy0))))) (aI (aI (aI (@xd0) (aI (@x6u) (@xzy))) (aI (aI (@xg0) (@xfw)) (aI (@xwy) (@xyz)))) (aI (aI (@xx1) (aI (@x6w) (@decide_true))) (aI (aI (@decide_false) (@Nat.zero_add)) (aI (@Nat.add_zero) (@and_true)))))))) (aI (aI (aI (aI (aI (aI (@true_and) (aI (@and_self) (@not_true_eq_false))) (aI (@not_false_eq_true) (aI (@false_implies) (@true_implies)))) (aI (aI (@Bool.false_eq_true) (aI (@Bool.true_eq_false) (@or_self))) (aI (aI (@or_false) (@or_true)) (aI (@true_or) (@Bool.and_true))))) (aI (aI (aI (@Bool.true_and) (aI (@xv5) (@x0z))) (aI (@xy1) (aI (@xw0) (@hs_int)))) (aI (aI (@xx6) (aI (@hs_str) (@hs_nil))) (aI (aI (@hs_msl) (@hs_ptr)) (aI (@hs_mp) (@Nat.add_assoc)))))) (aI (aI (aI (aI (@Nat.add_left_cancel_iff) (aI (@Nat.add_lt_add_iff_left) (@xiy))) (aI (@xh3) (aI (@x3u) (@hs_agg)))) (aI (aI (@x12) (aI (@xu6) (@xe5))) (aI (aI (@xb6) (@xv6)) (aI (@one_sl) (@x95))))) (aI (aI (aI (@one_mp) (aI (@Bool.and_self) (@xuz))) (aI (aI (@xhx) (@xj2)) (aI (@xm0) (@xpw)))) (aI (aI (@x4w) (aI (@xqw) (@xjw))) (aI (aI (@xs3) (@x7n)) (aI (@xqp) (@xxr))))))) (aI (aI (aI (aI (aI (@xlw) (aI (@xdw) (@xcv))) (aI (@x8u) (aI (@xww) (@xyx)))) (aI (aI (@xnw) (aI (@xky) (@xiv))) (aI (aI (@x2u) (@x4u)) (aI (@xlv) (@x5x))))) (aI (aI (aI (@xpz) (aI (@xwz) (@x2w))) (aI (aI (@xxm) (@xpr)) (aI (@xbz) (@xu1)))) (aI (aI (@xpx) (aI (@xgx) (@xe1))) (aI (aI (@x90) (@xm2)) (aI (@xi2) (@xz6)))))) (aI (aI (aI (aI (@x7z) (aI (@xgw) (@x2z))) (aI (@xbx) (aI (@xx0) (@xbw)))) (aI (aI (@Nat.left_eq_add) (aI (@Nat.add_eq_left) (@Nat.add_eq_right))) (aI (aI (@Nat.lt_add_right_iff_pos) (@xvz)) (aI (@x35) (@s0_nil))))) (aI (aI (aI (@x65) (aI (@z_tb) (@z_bne))) (aI (aI (@z_subl) (@z_btt)) (aI (@z_btf) (@z_bft)))) (aI (aI (@z_bff) (aI (@Bool.not_true) (@Bool.not_false))) (aI (aI (@x61) (@xk2)) (aI (@xo2) (@xx2))))))))
def EVd := aI (aI (aI (aI (aI (@x42) (@x4z)) (aI (@xvy) (@xb0))) (aI (aI (@xfx) (@x3w)) (aI (@xiz) (aI (@xex) (@upd_at))))) (aI (aI (aI (@C_skip) (@C_ret)) (aI (@C_exit) (aI (@C_goto) (@xo3)))) (aI (aI (@C_draw) (@x06)) (aI (@C_seq) (aI (@C_cond) (@x15)))))) (aI (aI (aI (aI (@C_loop) (@xe4)) (aI (@Q_seqN) (aI (@Q_seqE) (@Q_seqR)))) (aI (aI (@xr1) (@xc2)) (aI (@xs0) (aI (@Q_finN) (@Q_finR))))) (aI (aI (aI (@x01) (@xn3)) (aI (@xt0) (aI (@xay) (@xc5)))) (aI (aI (@xm4) (@X_ret)) (aI (@xp3) (aI (@x40) (@L_goto))))))
def R1 := @ld_1
def R2 := @ld_2
def R3 := aI (@ld_3) (aI (@st_3) (@bx_3))
def R4 := aI (aI (@ld_4) (@st_4)) (aI (@bq_4) (@bn_4))
def R5 := @ld_5
def R9 := aI (@ld_9) (aI (@lB_9) (@iB_9))
def R23 := aI (aI (aI (@ld_23) (@st_23)) (aI (@bx_23) (@al_23))) (aI (aI (@xk5) (@xr4)) (aI (@x25) (@bd_23)))
def R32 := aI (aI (@ld_32) (@st_32)) (aI (@iS_32) (aI (@iM_32) (@lS_32)))
def R34 := aI (aI (@ld_34) (@bx_34)) (aI (@xt6) (@xa4))
def R35 := aI (@ld_35) (aI (@iS_35) (@lS_35))
def R37 := aI (aI (@ld_37) (@bx_37)) (aI (@xc4) (@xs6))
def R39 := aI (@ld_39) (aI (@iS_39) (@lS_39))
def R40 := aI (aI (@ld_40) (@st_40)) (aI (@iS_40) (aI (@lS_40) (@lN_40)))
def R42 := aI (aI (@ld_42) (@xg5)) (aI (@x74) (@xi4))
def R44 := aI (aI (aI (@ld_44) (aI (@st_44) (@bx_44))) (aI (aI (@al_44) (@xh4)) (aI (@xw4) (@x85)))) (aI (aI (aI (@xc6) (@xl4)) (aI (@x54) (@xs5))) (aI (aI (@x05) (@xh5)) (aI (@xt5) (@bd_44))))
def R51 := aI (aI (aI (@ld_51) (@st_51)) (aI (@bx_51) (@al_51))) (aI (aI (@xd6) (@xy4)) (aI (@xx4) (aI (@xp6) (@xy6))))
def R54 := aI (aI (@iS_54) (@ap_54)) (aI (@bS_54) (@lS_54))
def R57 := aI (aI (@st_57) (@al_57)) (aI (@bd_57) (@iL_57))
def R58 := aI (aI (@ld_58) (@st_58)) (aI (@al_58) (@bd_58))
def R63 := aI (@al_63) (@iL_63)
def R81 := aI (@ld_81) (@bd_81)
def R82 := aI (aI (@ld_82) (aI (@st_82) (@al_82))) (aI (aI (@iS_82) (@iM_82)) (aI (@mk_82) (@lM_82)))
def R84 := aI (aI (@ld_84) (aI (@st_84) (@bx_84))) (aI (@al_84) (aI (@xi5) (@x64)))
def R128 := aI (@iS_128) (@lS_128)
def R129 := aI (@ld_129) (@bx_129)
def R146 := aI (aI (@ld_146) (@lk_146)) (aI (@mu_146) (aI (@mm_146) (@zero_3)))
def R147 := aI (aI (aI (@ld_147) (@st_147)) (aI (@iS_147) (@iM_147))) (aI (aI (@ap_147) (@bS_147)) (aI (@lS_147) (@lM_147)))
def R148 := aI (aI (@ld_148) (@st_148)) (aI (@ap_148) (@bS_148))
def R150 := aI (aI (aI (@bx_150) (@x00)) (aI (@xe2) (@x81))) (aI (aI (@x72) (@xq1)) (aI (@xq2) (@bd_150)))
def R153 := aI (aI (@ld_153) (aI (@st_153) (@bx_153))) (aI (@al_153) (aI (@xb3) (@bd_153)))
def R162 := @bd_162
def DOrigin := aI (aI (@xsz) (aI (@xly) (@xnz))) (aI (aI (@xl0) (@xdv)) (aI (@x5u) (@xmv)))
def DEntry := aI (aI (@xn1) (aI (@x60) (@x52))) (aI (@xtx) (aI (@x1x) (@xux)))
def DNode := aI (aI (aI (aI (@xx3) (@xu4)) (aI (@x23) (@xpy))) (aI (aI (@xc0) (@x9z)) (aI (@x3z) (@xjy)))) (aI (aI (aI (@xh0) (@xtz)) (aI (@xmy) (@xsy))) (aI (aI (@x9u) (@xny)) (aI (@xuy) (@xbv))))
def DBranch := aI (aI (@xgz) (@x9x)) (aI (@xsw) (@xa0))
def DStack := aI (aI (@xf1) (aI (@x71) (@xru))) (aI (@xcx) (aI (@xrx) (@xvw)))
def x4t := aI (aI (@xjx) (aI (@xew) (@xxw))) (aI (aI (@xwu) (@x3s)) (aI (@xqu) (@xys)))
def xom := aI (@xhq) (aI (@xzq) (@xdq))
def xl1 := aI (aI (@xdt) (aI (@xou) (@xyt))) (aI (@x6s) (aI (@xst) (@x5s)))
def DFinding := aI (@x1w) (@xvx)
def xqe := aI (aI (@xxq) (aI (@x0q) (@xuq))) (aI (@xqm) (aI (@x6o) (@x7o)))
def DWay := aI (aI (@hs_Way) (@la_Way)) (aI (@sz_Way) (@xa1))
def xy2 := @xtw
def ZL := aI (aI (aI (@xpr) (@xxm)) (aI (@xqp) (@xxr))) (aI (aI (@Nat.zero_add) (@Nat.add_zero)) (aI (@Nat.add_assoc) (@Nat.one_mul)))
def CLO := aI (aI (aI (aI (@xgc) (aI (@cM_u8) (@xec))) (aI (@xpc) (aI (@xad) (@xzd)))) (aI (aI (@c_Node) (aI (@xgd) (@xqd))) (aI (aI (@xje) (@xyh)) (aI (@xjh) (@xgf))))) (aI (aI (aI (@cM_Way) (aI (@x6x) (@x8s))) (aI (@x0u) (aI (@xlt) (@xhu)))) (aI (aI (@xuu) (aI (@xev) (@xhs))) (aI (aI (@x6q) (@Bool.and_true)) (aI (@Bool.true_and) (@Bool.and_self)))))
end Go.Proofs.YtefdlpandfhcgaaDoor.AL

