/- A law of the given program is proved: part 31 of 50. -/
import Derived.Test.YtefdlpandfhcgaaGreatDoorA30
set_option linter.all false
/- Bundles of equations for the walks: printed by bundle.py. -/
set_option linter.all false
namespace Go.Proofs.YtefdlpandfhcgaaGreatDoor.AL
def EV := aI (aI (aI (aI (aI (aI (aI (@opR_t) (aI (@opR_f) (@gR_tt))) (aI (@gR_ff) (aI (@gR_tf) (@gR_ft)))) (aI (aI (@xg4) (aI (@xk0) (@xn2))) (aI (aI (@xu1) (@opV_t)) (aI (@opV_f) (@xh1))))) (aI (aI (aI (@xs6) (aI (@mem_c) (@mem_n))) (aI (aI (@xnab) (@xq6)) (aI (@opD_t) (@opD_f)))) (aI (aI (@gD_tt) (aI (@gD_ff) (@gD_tf))) (aI (aI (@gD_ft) (@xc4)) (aI (@xm0) (@xl2)))))) (aI (aI (aI (aI (@tstR_t) (aI (@tstR_f) (@brR_t))) (aI (@brR_f) (aI (@argT_0) (@argT_1)))) (aI (aI (@argT_2) (aI (@xd3) (@xj5))) (aI (aI (@xc3) (@x81)) (aI (@x0z) (@xby))))) (aI (aI (aI (@ev_tmp) (aI (@x15) (@xhy))) (aI (aI (@xlx) (@xvy)) (aI (@x8u) (@x7x)))) (aI (aI (@E_move) (aI (@x44) (@xy2))) (aI (aI (@CV_val) (@E_pick)) (aI (@x49) (@xd8))))))) (aI (aI (aI (aI (aI (@E_load) (aI (@xw8) (@xjy))) (aI (@x66) (aI (@E_len) (@xx7)))) (aI (aI (@x80) (aI (@xf6) (@xd4))) (aI (aI (@E_bin) (@E_binI)) (aI (@E_binS) (@E_binN))))) (aI (aI (aI (@B_add) (aI (@B_sub) (@B_mul))) (aI (aI (@B_quo) (@B_rem)) (aI (@B_and) (@B_eql)))) (aI (aI (@B_neq) (aI (@B_lss) (@B_leq))) (aI (aI (@B_gtr) (@B_geq)) (aI (@S_eql) (@S_neq)))))) (aI (aI (aI (aI (@S_add) (aI (@E_not) (@notK_b))) (aI (@xoy) (aI (@x98) (@xqy)))) (aI (aI (@xp8) (aI (@xpab) (@xj0))) (aI (aI (@xj3) (@xqx)) (aI (@x55) (@xc6))))) (aI (aI (aI (@x62) (aI (@xay) (@xr2))) (aI (aI (@x82) (@x2z)) (aI (@xm2) (@xw1)))) (aI (aI (@xn6) (aI (@xg0) (@decide_true))) (aI (aI (@decide_false) (@Nat.zero_add)) (aI (@Nat.add_zero) (@and_true)))))))) (aI (aI (aI (aI (aI (aI (@true_and) (aI (@and_self) (@not_true_eq_false))) (aI (@not_false_eq_true) (aI (@false_implies) (@true_implies)))) (aI (aI (@Bool.false_eq_true) (aI (@Bool.true_eq_false) (@or_self))) (aI (aI (@or_false) (@or_true)) (aI (@true_or) (@Bool.and_true))))) (aI (aI (aI (@Bool.true_and) (aI (@xm8) (@x01))) (aI (aI (@xq5) (@xj4)) (aI (@hs_int) (@xs9)))) (aI (aI (@hs_str) (aI (@hs_msl) (@hs_ptr))) (aI (aI (@hs_mp) (@Nat.add_assoc)) (aI (@Nat.add_left_cancel_iff) (@Nat.add_lt_add_iff_left)))))) (aI (aI (aI (aI (@xd2) (aI (@xg6) (@x5x))) (aI (@hs_agg) (aI (@xv6) (@xt9)))) (aI (aI (@xiab) (aI (@xjab) (@xf9))) (aI (aI (@one_sl) (@xs7)) (aI (@one_mp) (@Bool.and_self))))) (aI (aI (aI (@xv3) (aI (@xqz) (@xd7))) (aI (aI (@xr3) (@x1z)) (aI (@xq0) (@xa0)))) (aI (aI (@x4z) (aI (@xk5) (@xfq))) (aI (aI (@xhs) (@xnu)) (aI (@xkz) (@x20))))))) (aI (aI (aI (aI (aI (@xyy) (aI (@xuy) (@xg1))) (aI (@x5z) (aI (@x3z) (@x92)))) (aI (aI (@xky) (aI (@x6x) (@xny))) (aI (aI (@xly) (@xw0)) (aI (@x12) (@xq2))))) (aI (aI (aI (@xy0) (aI (@xlp) (@xiu))) (aI (aI (@x8t) (@xqu)) (aI (@xx2) (@xw5)))) (aI (aI (@x00) (aI (@xe1) (@xy6))) (aI (aI (@xg7) (@xl6)) (aI (@xx4) (@xi9)))))) (aI (aI (aI (aI (@xn3) (aI (@xiz) (@xl3))) (aI (@xyz) (aI (@x06) (@x4y)))) (aI (aI (@Nat.left_eq_add) (aI (@Nat.add_eq_left) (@Nat.add_eq_right))) (aI (aI (@Nat.lt_add_right_iff_pos) (@xs1)) (aI (@xj9) (@s0_nil))))) (aI (aI (aI (@xc9) (aI (@z_tb) (@z_bne))) (aI (aI (@z_subl) (@z_btt)) (aI (@z_btf) (@z_bft)))) (aI (aI (@z_bff) (aI (@Bool.not_true) (@Bool.not_false))) (aI (aI (@xq4) (@x84)) (aI (@xw4) (@xz4))))))))
def EVd := aI (aI (aI (aI (aI (@x14) (@xz2)) (aI (@xq3) (@xo2))) (aI (aI (@xx0) (@xv0)) (aI (@x61) (aI (@xxz) (@upd_at))))) (aI (aI (aI (@C_skip) (@C_ret)) (aI (@C_exit) (aI (@C_goto) (@xz6)))) (aI (aI (@C_draw) (@xh8)) (aI (@C_seq) (aI (@C_cond) (@xc8)))))) (aI (aI (aI (aI (@C_loop) (@xbab)) (aI (@Q_seqN) (aI (@Q_seqE) (@Q_seqR)))) (aI (aI (@x75) (@xb7)) (aI (@xp4) (aI (@Q_finN) (@Q_finR))))) (aI (aI (aI (@xf5) (@xk6)) (aI (@xn4) (aI (@x53) (@x59)))) (aI (aI (@xp7) (@X_ret)) (aI (@xf7) (aI (@x76) (@L_goto))))))
def R1 := @ld_1
def R2 := @ld_2
def R3 := aI (@ld_3) (aI (@st_3) (@bx_3))
def R4 := aI (@ld_4) (aI (@st_4) (@bq_4))
def R9 := aI (@ld_9) (aI (@lB_9) (@iB_9))
def R24 := aI (@ld_24) (aI (@iS_24) (@lS_24))
def R26 := aI (aI (@ld_26) (@bx_26)) (aI (@xq8) (@x27))
def R27 := aI (@ld_27) (aI (@iS_27) (@lS_27))
def R29 := aI (aI (@ld_29) (@bx_29)) (aI (@xr8) (@xkab))
def R31 := aI (aI (aI (@ld_31) (@st_31)) (aI (@bx_31) (aI (@al_31) (@x78)))) (aI (aI (@xmab) (@xo8)) (aI (@x79) (aI (@xj7) (@x87))))
def R35 := aI (aI (@iS_35) (@ap_35)) (aI (@bS_35) (@lS_35))
def R37 := aI (@ld_37) (@bd_37)
def R45 := aI (aI (@ld_45) (@iS_45)) (aI (@lS_45) (@lN_45))
def R46 := aI (@ld_46) (@lS_46)
def R48 := aI (aI (aI (@ld_48) (@st_48)) (aI (@bx_48) (@al_48))) (aI (aI (@xx8) (@x89)) (aI (@xrab) (@bd_48)))
def R50 := aI (aI (@ld_50) (@bx_50)) (aI (@xr9) (aI (@xe8) (@xk9)))
def R52 := aI (aI (aI (@ld_52) (aI (@st_52) (@bx_52))) (aI (@al_52) (aI (@xaab) (@xeab)))) (aI (aI (@xlab) (aI (@xvab) (@xqab))) (aI (aI (@x47) (@xd9)) (aI (@xb9) (@bd_52))))
def R53 := aI (aI (@ld_53) (aI (@st_53) (@al_53))) (aI (aI (@iS_53) (@iM_53)) (aI (@mk_53) (@lM_53)))
def R55 := aI (aI (@ld_55) (aI (@st_55) (@bx_55))) (aI (@al_55) (aI (@xl9) (@xu8)))
def R67 := aI (@iS_67) (aI (@bS_67) (@lS_67))
def R80 := aI (aI (@bx_80) (@x88)) (aI (@x08) (@bd_80))
def R82 := aI (aI (aI (@ld_82) (@st_82)) (aI (@iS_82) (@iM_82))) (aI (aI (@ap_82) (@bS_82)) (aI (@lS_82) (@lM_82)))
def R85 := aI (aI (@ld_85) (aI (@st_85) (@bx_85))) (aI (aI (@al_85) (@xb8)) (aI (@x77) (@bd_85)))
def R89 := aI (@ld_89) (@bx_89)
def R92 := aI (@al_92) (@iL_92)
def R93 := aI (aI (@st_93) (@al_93)) (aI (@bd_93) (@iL_93))
def R94 := aI (aI (@ld_94) (@st_94)) (aI (@al_94) (@bd_94))
def R103 := aI (aI (@ld_103) (@st_103)) (aI (@ap_103) (@bS_103))
def R108 := aI (aI (@ld_108) (@lk_108)) (aI (@mu_108) (aI (@mm_108) (@zero_3)))
def R110 := aI (aI (aI (@bx_110) (@x35)) (aI (@xb4) (@xt4))) (aI (aI (@xv4) (@x25)) (aI (@xf4) (@bd_110)))
def R120 := @bd_120
def DEntry := aI (aI (@xt6) (aI (@xu4) (@xa7))) (aI (@xh0) (aI (@x40) (@x90)))
def DOrigin := aI (aI (@xy3) (aI (@x52) (@xg3))) (aI (aI (@x72) (@xpy)) (aI (@xry) (@xey)))
def DAttr := aI (@xw7) (@xr1)
def DNode := aI (aI (aI (@xdab) (aI (@xt7) (@xsab))) (aI (aI (@xp3) (@xw3)) (aI (@xi3) (@xk2)))) (aI (aI (@x23) (aI (@xx3) (@xf2))) (aI (aI (@xfy) (@xa3)) (aI (@xn1) (@x8x))))
def DBranch := aI (aI (@xt2) (@xo1)) (aI (@xd1) (@x71))
def DStack := aI (aI (@xr4) (@xe6)) (aI (@x3w) (@xn0))
def DFinding := aI (@xmz) (@xuz)
def xsf := aI (aI (@xts) (aI (@x0t) (@xnt))) (aI (@xto) (aI (@xhr) (@xbr)))
def DPlace := aI (@xh5) (aI (@xo0) (@xsz))
def DWay := aI (aI (@hs_Way) (@la_Way)) (aI (@sz_Way) (@xy4))
def xr5 := aI (aI (@xqw) (aI (@xkw) (@xhx))) (aI (@x0w) (aI (@xuv) (@x1w)))
def x0x := aI (aI (@xjz) (aI (@xe0) (@x9z))) (aI (aI (@xdx) (@x6v)) (aI (@x9w) (@x4w)))
def xwo := aI (@xit) (aI (@xys) (@xet))
def xex := @xvz
def ZL := aI (aI (aI (@xiu) (@xlp)) (aI (@xhs) (aI (@xnu) (@x8t)))) (aI (aI (@xqu) (@Nat.zero_add)) (aI (@Nat.add_zero) (aI (@Nat.add_assoc) (@Nat.one_mul))))
def CLO := aI (aI (aI (aI (@cM_int) (aI (@xvc) (@x1c))) (aI (@xsd) (aI (@x4c) (@c_Attr)))) (aI (aI (@xze) (aI (@c_Node) (@xke))) (aI (aI (@xpe) (@xng)) (aI (@x4e) (@xld))))) (aI (aI (aI (@x2i) (aI (@cM_Way) (@xu0))) (aI (aI (@xuw) (@xgy)) (aI (@xnx) (@x0v)))) (aI (aI (@xwv) (aI (@xty) (@xkv))) (aI (aI (@xmt) (@Bool.and_true)) (aI (@Bool.true_and) (@Bool.and_self)))))
end Go.Proofs.YtefdlpandfhcgaaGreatDoor.AL

