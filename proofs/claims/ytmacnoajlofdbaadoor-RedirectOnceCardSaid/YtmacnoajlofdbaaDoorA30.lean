/- A law of the given program is proved: part 30 of 49. -/
import Derived.Test.YtmacnoajlofdbaaDoorA29
set_option linter.all false
/- Bundles of equations for the walks: printed by bundle.py. -/
set_option linter.all false
namespace Go.Proofs.YtmacnoajlofdbaaDoor.AL
def EV := aI (aI (aI (aI (aI (aI (aI (@opR_t) (aI (@opR_f) (@gR_tt))) (aI (@gR_ff) (aI (@gR_tf) (@gR_ft)))) (aI (aI (@xu9) (aI (@x64) (@xd4))) (aI (aI (@x85) (@xq6)) (aI (@opV_t) (@opV_f))))) (aI (aI (aI (@xo3) (aI (@xpbb) (@mem_c))) (aI (aI (@mem_n) (@x2bb)) (aI (@xyab) (@opD_t)))) (aI (aI (@opD_f) (aI (@gD_tt) (@gD_ff))) (aI (aI (@gD_tf) (@gD_ft)) (aI (@x28) (@xg4)))))) (aI (aI (aI (aI (@x25) (aI (@tstR_t) (@tstR_f))) (aI (aI (@brR_t) (@brR_f)) (aI (@argT_0) (@argT_1)))) (aI (aI (@argT_2) (aI (@argT_3) (@xo5))) (aI (aI (@xk9) (@x86)) (aI (@xz5) (@xf4))))) (aI (aI (aI (@xk2) (aI (@ev_tmp) (@x59))) (aI (aI (@x2db) (@xc2)) (aI (@xa0) (@xt1)))) (aI (aI (@x4x) (aI (@x61) (@xq1))) (aI (aI (@E_move) (@xqbb)) (aI (@E_pick) (@xpdb))))))) (aI (aI (aI (aI (aI (@xkcb) (aI (@E_load) (@xpcb))) (aI (@xb2) (aI (@xbab) (@E_len)))) (aI (aI (@xfdb) (aI (@xx4) (@x68))) (aI (aI (@xw8) (@E_bin)) (aI (@E_binI) (@E_binS))))) (aI (aI (aI (@B_add) (aI (@B_sub) (@B_quo))) (aI (aI (@B_rem) (@B_and)) (aI (@xqab) (@B_eql)))) (aI (aI (@B_neq) (aI (@B_lss) (@B_leq))) (aI (aI (@B_gtr) (@B_geq)) (aI (@S_eql) (@S_neq)))))) (aI (aI (aI (aI (@E_not) (aI (@notK_b) (@xn2))) (aI (aI (@x0eb) (@xw1)) (aI (@xqcb) (@xucb)))) (aI (aI (@xu4) (aI (@x05) (@xz0))) (aI (aI (@x49) (@x69)) (aI (@x06) (@xe2))))) (aI (aI (aI (@xu6) (aI (@xw6) (@xs4))) (aI (aI (@xn7) (@xv6)) (aI (@xc5) (@xb9)))) (aI (aI (@xx3) (aI (@decide_true) (@decide_false))) (aI (aI (@Nat.zero_add) (@Nat.add_zero)) (aI (@and_true) (@true_and)))))))) (aI (aI (aI (aI (aI (aI (@and_self) (aI (@not_true_eq_false) (@not_false_eq_true))) (aI (@false_implies) (aI (@true_implies) (@Bool.false_eq_true)))) (aI (aI (@Bool.true_eq_false) (aI (@or_self) (@or_false))) (aI (aI (@or_true) (@true_or)) (aI (@Bool.and_true) (@Bool.true_and))))) (aI (aI (aI (@xndb) (aI (@xc6) (@xa8))) (aI (aI (@hs_int) (@x2eb)) (aI (@hs_str) (@hs_sl)))) (aI (aI (@hs_msl) (aI (@hs_ptr) (@hs_mp))) (aI (aI (@iv_int) (@Nat.add_assoc)) (aI (@Nat.add_left_cancel_iff) (@Nat.add_lt_add_iff_left)))))) (aI (aI (aI (aI (@xi7) (aI (@x2ab) (@xo1))) (aI (aI (@hs_agg) (@xn9)) (aI (@x1db) (@x7db)))) (aI (aI (@x9eb) (aI (@xweb) (@one_sl))) (aI (aI (@xseb) (@one_mp)) (aI (@Bool.and_self) (@xjeb))))) (aI (aI (aI (@xn4) (aI (@xd7) (@xy8))) (aI (aI (@xe7) (@xa5)) (aI (@x34) (@xl3)))) (aI (aI (@xa3) (aI (@xxab) (@x67))) (aI (aI (@x3s) (@xa2)) (aI (@xku) (@xix))))))) (aI (aI (aI (aI (aI (@xc4) (aI (@xm3) (@xi2))) (aI (@xg2) (aI (@xl4) (@xw3)))) (aI (aI (@xm4) (aI (@x36) (@xs1))) (aI (aI (@xm2) (@xl2)) (aI (@x01) (@x84))))) (aI (aI (aI (@xr7) (aI (@xh6) (@xe3))) (aI (aI (@xqp) (@xnx)) (aI (@xkx) (@xfx)))) (aI (aI (@x75) (aI (@x38) (@xy4))) (aI (aI (@xj4) (@xzab)) (aI (@x1ab) (@xe8)))))) (aI (aI (aI (aI (@xz8) (aI (@x4bb) (@xr6))) (aI (aI (@xh4) (@x26)) (aI (@x54) (@xwab)))) (aI (aI (@x7cb) (aI (@Nat.left_eq_add) (@Nat.add_eq_left))) (aI (aI (@Nat.add_eq_right) (@Nat.lt_add_right_iff_pos)) (aI (@xy5) (@xgdb))))) (aI (aI (aI (@s0_str) (aI (@s0_nil) (@xfeb))) (aI (aI (@st1_sl) (@xocb)) (aI (@z_tb) (@z_bne)))) (aI (aI (@z_subl) (aI (@Bool.not_true) (@Bool.not_false))) (aI (aI (@xs8) (@xcbb)) (aI (@xsbb) (@xf9))))))))
def EVd := aI (aI (aI (aI (aI (@xxbb) (aI (@x95) (@xz6))) (aI (@xk5) (aI (@xv3) (@x33)))) (aI (aI (@xf6) (aI (@x53) (@upd_at))) (aI (@C_skip) (aI (@C_ret) (@C_exit))))) (aI (aI (aI (@xreb) (aI (@C_goto) (@xq9))) (aI (@C_draw) (aI (@xjcb) (@C_seq)))) (aI (aI (@C_cond) (aI (@xudb) (@C_loop))) (aI (aI (@xtcb) (@Q_seqN)) (aI (@Q_seqE) (@Q_seqG)))))) (aI (aI (aI (aI (@Q_seqR) (aI (@xlab) (@xu8))) (aI (@x08) (aI (@xrab) (@Q_finN)))) (aI (aI (@Q_finR) (aI (@x79) (@xcab))) (aI (@xebb) (aI (@xf5) (@retR_3))))) (aI (aI (aI (@xa9) (aI (@x57) (@xdcb))) (aI (@X_ret) (aI (@X_goto) (@x98)))) (aI (aI (@G_ret) (aI (@x7ab) (@L_ret))) (aI (aI (@L_goto) (@U_goto)) (aI (@U_ret) (@U_exit))))))
def R1 := @ld_1
def R2 := @ld_2
def R3 := aI (@ld_3) (aI (@st_3) (@bx_3))
def R4 := aI (@ld_4) (@st_4)
def R9 := aI (aI (@ld_9) (@st_9)) (aI (@lB_9) (@iB_9))
def R24 := aI (aI (@ld_24) (@st_24)) (aI (@iS_24) (aI (@iM_24) (@lS_24)))
def R26 := aI (aI (@ld_26) (@bx_26)) (aI (@xaeb) (@xoeb))
def R27 := aI (@ld_27) (@lS_27)
def R29 := aI (aI (@ld_29) (aI (@st_29) (@bx_29))) (aI (@al_29) (aI (@xscb) (@xieb)))
def R32 := aI (aI (aI (@ld_32) (@st_32)) (aI (@al_32) (@iS_32))) (aI (aI (@iM_32) (@mk_32)) (aI (@lS_32) (@lM_32)))
def R34 := aI (aI (@iS_34) (aI (@iM_34) (@ap_34))) (aI (@bS_34) (aI (@lS_34) (@lM_34)))
def R35 := aI (aI (@iS_35) (@ap_35)) (aI (@bS_35) (@lS_35))
def R38 := aI (aI (aI (@ld_38) (@st_38)) (aI (@bx_38) (@al_38))) (aI (aI (@xeeb) (@xwdb)) (aI (@xneb) (@bd_38)))
def R40 := aI (@ld_40) (@lS_40)
def R41 := aI (aI (@ld_41) (@iS_41)) (aI (@lS_41) (@lN_41))
def R43 := aI (@st_43) (@bd_43)
def R45 := aI (aI (aI (@ld_45) (@st_45)) (aI (@bx_45) (@al_45))) (aI (aI (@x1bb) (@x7eb)) (aI (@xzbb) (aI (@x4db) (@x4eb))))
def R47 := aI (aI (aI (@ld_47) (aI (@st_47) (@bx_47))) (aI (@al_47) (aI (@xgcb) (@xxeb)))) (aI (aI (@xncb) (aI (@x6db) (@xhcb))) (aI (@x9cb) (aI (@x6cb) (@bd_47))))
def R61 := aI (aI (@iS_61) (@ap_61)) (aI (@bS_61) (@lS_61))
def R63 := aI (aI (@ld_63) (aI (@st_63) (@iS_63))) (aI (aI (@ap_63) (@bS_63)) (aI (@lS_63) (@lM_63)))
def R65 := aI (aI (@ld_65) (aI (@st_65) (@bx_65))) (aI (aI (@al_65) (@xlcb)) (aI (@x3cb) (@bd_65)))
def R68 := aI (aI (aI (@ld_68) (@st_68)) (aI (@iS_68) (@iM_68))) (aI (aI (@ap_68) (@bS_68)) (aI (@lS_68) (@lM_68)))
def R71 := aI (aI (aI (@ld_71) (@st_71)) (aI (@bx_71) (aI (@al_71) (@x5db)))) (aI (aI (@xvcb) (@xwcb)) (aI (@xkdb) (aI (@xpeb) (@bd_71))))
def R74 := aI (aI (aI (@ld_74) (@st_74)) (aI (@bx_74) (aI (@al_74) (@xzcb)))) (aI (aI (@x8bb) (@x0cb)) (aI (@x7bb) (aI (@xtdb) (@xveb))))
def R75 := aI (aI (@ld_75) (@iS_75)) (aI (@iM_75) (aI (@ap_75) (@bS_75)))
def R77 := aI (aI (aI (@ld_77) (@st_77)) (aI (@bx_77) (@al_77))) (aI (aI (@x2cb) (@xldb)) (aI (@xddb) (@bd_77)))
def R79 := aI (aI (@ld_79) (@lk_79)) (aI (@mu_79) (aI (@mm_79) (@zero_3)))
def R94 := aI (aI (@ld_94) (@st_94)) (aI (@ap_94) (@bS_94))
def R101 := aI (@ld_101) (@bx_101)
def R112 := aI (aI (aI (@ld_112) (@st_112)) (aI (@bx_112) (@al_112))) (aI (aI (@xrbb) (@xs9)) (aI (@xi8) (@bd_112)))
def R114 := @bd_114
def R116 := aI (aI (@ld_116) (aI (@st_116) (@bx_116))) (aI (@al_116) (aI (@xv9) (@bd_116)))
def R122 := aI (aI (aI (@bx_122) (@xnbb)) (aI (@xw9) (@xlbb))) (aI (aI (@xhbb) (@xh8)) (aI (@x88) (@bd_122)))
def R142 := aI (@iS_142) (@lS_142)
def DEntry := aI (aI (@xjab) (aI (@xd9) (@xkbb))) (aI (@xg3) (aI (@xb5) (@xw4)))
def DOrigin := @xq5
def DAttr := aI (aI (aI (@x5bb) (@xbdb)) (aI (@x6eb) (@xb7))) (aI (aI (@xq7) (@x27)) (aI (@xw5) (aI (@xd2) (@xm6))))
def DNode := aI (aI (aI (@xqeb) (aI (@xmcb) (@xdeb))) (aI (aI (@x76) (@xu5)) (aI (@xs6) (@xh5)))) (aI (aI (@xr5) (aI (@xi6) (@x41))) (aI (aI (@xz1) (@xo6)) (aI (@x16) (@xm7))))
def DBranch := aI (aI (@x17) (@xh7)) (aI (@xp3) (@xs7))
def DStack := aI (aI (aI (@xpab) (@xd8)) (aI (@xo8) (@xp9))) (aI (aI (@xc1) (@xi4)) (aI (@x03) (@xc3)))
def DFinding := aI (aI (@xq3) (@xq4)) (aI (@x44) (aI (@xyz) (@xy0)))
def DPlace := aI (aI (@xmbb) (aI (@xl8) (@xeab))) (aI (@xnab) (aI (@xb3) (@x43)))
def DWay := aI (aI (@hs_Way) (aI (@la_Way) (@sz_Way))) (aI (@x4ab) (aI (@xg8) (@xtbb)))
def DView := aI (aI (@xleb) (@xceb)) (aI (@xadb) (aI (@x0db) (@xw7)))
def xgg := aI (aI (@xyt) (aI (@xjt) (@xht))) (aI (@xrr) (aI (@x4p) (@x7q)))
def xet := @xo4
def ZL := aI (aI (aI (@xnx) (@xqp)) (aI (@xku) (aI (@xix) (@xkx)))) (aI (aI (@xfx) (@Nat.zero_add)) (aI (@Nat.add_zero) (aI (@Nat.add_assoc) (@Nat.one_mul))))
def CLO := aI (aI (aI (aI (@cM_int) (aI (@xxd) (@cM_str))) (aI (aI (@x8d) (@x5e)) (aI (@c_Attr) (@xah)))) (aI (aI (aI (@c_Node) (@xsg)) (aI (@xyg) (@xej))) (aI (aI (@xji) (@xoh)) (aI (@xvl) (@xjl))))) (aI (aI (aI (aI (@cM_Way) (@xqv)) (aI (@c_View) (@x4j))) (aI (aI (@xr4) (@xu0)) (aI (@xv1) (@xjz)))) (aI (aI (aI (@x90) (@xrz)) (aI (@xx1) (@xhy))) (aI (aI (@xtv) (@Bool.and_true)) (aI (@Bool.true_and) (@Bool.and_self)))))
end Go.Proofs.YtmacnoajlofdbaaDoor.AL

