/- A law of the given program is proved: part 30 of 51. -/
import Derived.Test.YtfkgckbdknpcnaaGreatDoorA29
set_option linter.all false
/- Bundles of equations for the walks: printed by bundle.py. -/
set_option linter.all false
namespace Go.Proofs.YtfkgckbdknpcnaaGreatDoor.AL
def EV := aI (aI (aI (aI (aI (aI (aI (@opR_t) (aI (@opR_f) (@gR_tt))) (aI (aI (@gR_ff) (@gR_tf)) (aI (@gR_ft) (@xoeb)))) (aI (aI (@xr8) (aI (@xx8) (@xtab))) (aI (aI (@xn9) (@opV_t)) (aI (@opV_f) (@x97))))) (aI (aI (aI (@xsbb) (aI (@mem_c) (@mem_n))) (aI (aI (@xugb) (@xkeb)) (aI (@opD_t) (@opD_f)))) (aI (aI (@gD_tt) (aI (@gD_ff) (@gD_tf))) (aI (aI (@gD_ft) (@xgdb)) (aI (@xu8) (@x99)))))) (aI (aI (aI (aI (@x48) (aI (@tstR_t) (@tstR_f))) (aI (aI (@brR_t) (@brR_f)) (aI (@argT_0) (@argT_1)))) (aI (aI (@argT_2) (aI (@argT_3) (@xu9))) (aI (aI (@x7db) (@x1ab)) (aI (@x6ab) (@xu7))))) (aI (aI (aI (@xb6) (aI (@ev_tmp) (@xrdb))) (aI (aI (@xjhb) (@xv5)) (aI (@xu4) (@xg5)))) (aI (aI (@xn1) (aI (@xd6) (@x15))) (aI (aI (@E_move) (@x5cb)) (aI (@E_pick) (@x7fb))))))) (aI (aI (aI (aI (aI (@xyhb) (aI (@E_load) (@x1fb))) (aI (aI (@xa5) (@x3eb)) (aI (@E_len) (@xrgb)))) (aI (aI (@xh8) (aI (@xycb) (@x6bb))) (aI (aI (@E_bin) (@E_binI)) (aI (@E_binS) (@B_add))))) (aI (aI (aI (@B_sub) (aI (@B_quo) (@B_rem))) (aI (aI (@B_and) (@B_eql)) (aI (@B_neq) (@B_lss)))) (aI (aI (@B_leq) (aI (@B_gtr) (@B_geq))) (aI (aI (@S_eql) (@S_neq)) (aI (@S_add) (@E_not)))))) (aI (aI (aI (aI (@notK_b) (aI (@x94) (@xfhb))) (aI (aI (@xu5) (@x4gb)) (aI (@x7gb) (@xc7)))) (aI (aI (@xk9) (aI (@xa4) (@xhcb))) (aI (aI (@xedb) (@x4ab)) (aI (@x65) (@x59))))) (aI (aI (aI (@x79) (aI (@xi7) (@xy9))) (aI (aI (@xj9) (@x19)) (aI (@xkcb) (@xl8)))) (aI (aI (aI (@decide_true) (@decide_false)) (aI (@Nat.zero_add) (@Nat.add_zero))) (aI (aI (@and_true) (@true_and)) (aI (@and_self) (@not_true_eq_false)))))))) (aI (aI (aI (aI (aI (aI (@not_false_eq_true) (aI (@false_implies) (@true_implies))) (aI (aI (@Bool.false_eq_true) (@Bool.true_eq_false)) (aI (@or_self) (@or_false)))) (aI (aI (@or_true) (aI (@true_or) (@Bool.and_true))) (aI (aI (@Bool.true_and) (@xhgb)) (aI (@xe9) (@xhdb))))) (aI (aI (aI (@hs_int) (aI (@x2hb) (@hs_str))) (aI (aI (@hs_sl) (@hs_msl)) (aI (@hs_ptr) (@hs_mp)))) (aI (aI (@iv_int) (aI (@Nat.add_assoc) (@Nat.add_left_cancel_iff))) (aI (aI (@Nat.add_lt_add_iff_left) (@x5ab)) (aI (@x4bb) (@xy5)))))) (aI (aI (aI (aI (@hs_agg) (aI (@xtcb) (@xcib))) (aI (aI (@x8hb) (@x1gb)) (aI (@xwgb) (@one_sl)))) (aI (aI (@xigb) (aI (@one_mp) (@Bool.and_self))) (aI (aI (@xqfb) (@x07)) (aI (@x2ab) (@xo8))))) (aI (aI (aI (@x5bb) (aI (@xb9) (@xh7))) (aI (aI (@xj7) (@x27)) (aI (@xp7) (@xddb)))) (aI (aI (@x0eb) (aI (@xev) (@xl5))) (aI (aI (@x3x) (@xm0)) (aI (@x86) (@x76))))))) (aI (aI (aI (aI (aI (@xn5) (aI (@xd5) (@xm8))) (aI (aI (@x96) (@xv7)) (aI (@xjbb) (@xr5)))) (aI (aI (@xm5) (aI (@xo5) (@x84))) (aI (aI (@xz8) (@x98)) (aI (@xc9) (@xg8))))) (aI (aI (aI (@x7t) (aI (@x20) (@xv0))) (aI (aI (@x5z) (@xh9)) (aI (@xtbb) (@xy7)))) (aI (aI (@xd7) (aI (@xceb) (@xodb))) (aI (aI (@xubb) (@xybb)) (aI (@xpgb) (@xhab)))))) (aI (aI (aI (aI (@xx7) (aI (@xdab) (@x67))) (aI (aI (@xweb) (@xvfb)) (aI (@Nat.left_eq_add) (@Nat.add_eq_left)))) (aI (aI (@Nat.add_eq_right) (aI (@Nat.lt_add_right_iff_pos) (@xl9))) (aI (aI (@xehb) (@s0_str)) (aI (@s0_nil) (@xdhb))))) (aI (aI (aI (@st1_sl) (aI (@xaib) (@z_tb))) (aI (aI (@z_bne) (@z_subl)) (aI (@z_btt) (@z_btf)))) (aI (aI (aI (@z_bft) (@z_bff)) (aI (@Bool.not_true) (@Bool.not_false))) (aI (aI (@xgcb) (@xgeb)) (aI (@xueb) (@xjdb))))))))
def EVd := aI (aI (aI (aI (aI (@xsdb) (aI (@xkbb) (@x7ab))) (aI (@xd9) (aI (@x17) (@x16)))) (aI (aI (@xz9) (aI (@xk7) (@upd_at))) (aI (@C_skip) (aI (@C_ret) (@C_exit))))) (aI (aI (aI (@x0hb) (aI (@C_goto) (@x8eb))) (aI (@C_draw) (aI (@xkfb) (@C_seq)))) (aI (aI (@C_cond) (aI (@xrfb) (@C_loop))) (aI (aI (@x1hb) (@Q_seqN)) (aI (@Q_seqE) (@Q_seqG)))))) (aI (aI (aI (aI (@Q_seqR) (aI (@xpcb) (@xacb))) (aI (@xrcb) (aI (@xzbb) (@Q_finN)))) (aI (aI (@Q_finR) (aI (@xcdb) (@xxeb))) (aI (aI (@xzcb) (@xmab)) (aI (@xgib) (@retR_3))))) (aI (aI (aI (@xfdb) (aI (@x3bb) (@x6fb))) (aI (@X_ret) (aI (@X_goto) (@xeeb)))) (aI (aI (@G_ret) (aI (@xaeb) (@L_ret))) (aI (aI (@L_goto) (@U_goto)) (aI (@U_ret) (@U_exit))))))
def R1 := @ld_1
def R2 := @ld_2
def R3 := aI (@ld_3) (aI (@st_3) (@bx_3))
def R4 := aI (@ld_4) (aI (@st_4) (@bq_4))
def R9 := aI (aI (@ld_9) (@st_9)) (aI (@lB_9) (@iB_9))
def R24 := aI (@ld_24) (aI (@iS_24) (@lS_24))
def R26 := aI (aI (@ld_26) (@bx_26)) (aI (@xthb) (@x0gb))
def R27 := aI (@ld_27) (aI (@iS_27) (@lS_27))
def R29 := aI (aI (@ld_29) (@bx_29)) (aI (@x4hb) (@xvgb))
def R30 := aI (aI (@iS_30) (aI (@iM_30) (@ap_30))) (aI (@bS_30) (aI (@lS_30) (@lM_30)))
def R34 := aI (aI (@iS_34) (@ap_34)) (aI (@bS_34) (@lS_34))
def R36 := aI (@ld_36) (@bd_36)
def R39 := aI (aI (@ld_39) (aI (@st_39) (@iS_39))) (aI (aI (@ap_39) (@bS_39)) (aI (@lS_39) (@lM_39)))
def R41 := aI (aI (@ld_41) (aI (@st_41) (@bx_41))) (aI (aI (@al_41) (@xzfb)) (aI (@x5gb) (@bd_41)))
def R51 := aI (aI (aI (@ld_51) (@st_51)) (aI (@iS_51) (@iM_51))) (aI (aI (@ap_51) (@bS_51)) (aI (@lS_51) (@lM_51)))
def R52 := aI (aI (@ld_52) (aI (@iS_52) (@iM_52))) (aI (@ap_52) (aI (@bS_52) (@lS_52)))
def R54 := aI (aI (aI (@ld_54) (@st_54)) (aI (@bx_54) (@al_54))) (aI (aI (@xphb) (@xkgb)) (aI (@xlhb) (@bd_54)))
def R56 := aI (aI (@ld_56) (@lk_56)) (aI (@mu_56) (aI (@mm_56) (@zero_3)))
def R58 := aI (aI (aI (@ld_58) (@st_58)) (aI (@al_58) (@iS_58))) (aI (aI (@iM_58) (@mk_58)) (aI (@lS_58) (@lM_58)))
def R61 := aI (@ld_61) (@lS_61)
def R62 := aI (aI (@ld_62) (@iS_62)) (aI (@lS_62) (@lN_62))
def R66 := aI (aI (@ld_66) (@bx_66)) (aI (@xbhb) (aI (@xzgb) (@x3hb)))
def R68 := aI (aI (aI (@ld_68) (aI (@st_68) (@bx_68))) (aI (@al_68) (aI (@xlfb) (@x6hb)))) (aI (aI (@xghb) (aI (@xnhb) (@xmgb))) (aI (aI (@x8gb) (@xrhb)) (aI (@xvhb) (@bd_68))))
def R73 := aI (aI (@iS_73) (aI (@iM_73) (@ap_73))) (aI (@bS_73) (aI (@lS_73) (@lM_73)))
def R77 := aI (aI (aI (@ld_77) (@st_77)) (aI (@bx_77) (aI (@al_77) (@xffb)))) (aI (aI (@xhfb) (aI (@xbib) (@xshb))) (aI (@x9fb) (aI (@xsfb) (@bd_77))))
def R80 := aI (aI (aI (@ld_80) (@st_80)) (aI (@bx_80) (@al_80))) (aI (aI (@x9hb) (@xngb)) (aI (@xkhb) (@bd_80)))
def R87 := aI (aI (aI (@ld_87) (@st_87)) (aI (@bx_87) (aI (@al_87) (@xxhb)))) (aI (aI (@xihb) (@xmfb)) (aI (@xjfb) (aI (@xpfb) (@xyfb))))
def R91 := aI (@ld_91) (@bx_91)
def R109 := aI (aI (@ld_109) (aI (@st_109) (@bx_109))) (aI (@al_109) (aI (@xteb) (@bd_109)))
def R113 := aI (aI (@ld_113) (@st_113)) (aI (@ap_113) (@bS_113))
def R115 := aI (aI (aI (@bx_115) (@xudb)) (aI (@xqeb) (@xlcb))) (aI (aI (@xicb) (@xydb)) (aI (@xjeb) (@bd_115)))
def R136 := @bd_136
def R146 := aI (@iS_146) (@lS_146)
def DEntry := aI (aI (@xpdb) (aI (@xpeb) (@x6db))) (aI (@xj8) (aI (@xt8) (@xz7)))
def DAttr := aI (@x2fb) (@xzab)
def DNode := aI (aI (aI (@xufb) (aI (@x8fb) (@xlgb))) (aI (aI (@x58) (@xaab)) (aI (@xt9) (@x3ab)))) (aI (aI (@xcbb) (aI (@xyab) (@x05))) (aI (aI (@xz5) (@xpab)) (aI (@xnab) (@xmbb))))
def DBranch := aI (aI (@xm9) (@xx9)) (aI (@xa8) (@xfbb))
def DStack := aI (aI (@x2cb) (aI (@x3db) (@x7eb))) (aI (aI (@xleb) (@xf4)) (aI (@xn7) (@xq8)))
def DFinding := aI (@x06) (@xd8)
def DPlace := aI (aI (@xmdb) (aI (@xqcb) (@xyeb))) (aI (@x0cb) (aI (@xb8) (@x26)))
def DWay := aI (aI (@hs_Way) (aI (@la_Way) (@sz_Way))) (aI (@xfeb) (aI (@xafb) (@xieb)))
def DView := aI (aI (@x5fb) (@xifb)) (aI (@xggb) (aI (@xqgb) (@x0ab)))
def xfh := aI (aI (@xuw) (aI (@x2v) (@xiw))) (aI (@xgu) (aI (@xjs) (@x2t)))
def xpw := @xq7
def ZL := aI (aI (aI (@x20) (@x7t)) (aI (@x3x) (aI (@xm0) (@xv0)))) (aI (aI (@x5z) (@Nat.zero_add)) (aI (@Nat.add_zero) (aI (@Nat.add_assoc) (@Nat.one_mul))))
def CLO := aI (aI (aI (aI (@cM_int) (aI (@xhe) (@cM_str))) (aI (aI (@xxe) (@x7f)) (aI (@c_Attr) (@xmi)))) (aI (aI (aI (@c_Node) (@xzh)) (aI (@x5h) (@x0k))) (aI (aI (@xoj) (@xfj)) (aI (@xun) (@x8m))))) (aI (aI (aI (aI (@cM_Way) (@xqz)) (aI (@c_View) (@xul))) (aI (aI (@xt7) (@x83)) (aI (@xt5) (@x72)))) (aI (aI (aI (@xv3) (@x13)) (aI (@xw5) (@xj1))) (aI (aI (@xlz) (@Bool.and_true)) (aI (@Bool.true_and) (@Bool.and_self)))))
end Go.Proofs.YtfkgckbdknpcnaaGreatDoor.AL

