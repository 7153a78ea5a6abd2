/- A law of the given program is proved: part 30 of 51. -/
import Derived.Test.YtapdjibjnfeipaaGreatDoorD29
set_option linter.all false
/- Bundles of equations for the walks: printed by bundle.py. -/
set_option linter.all false
namespace Go.Proofs.YtapdjibjnfeipaaGreatDoor.AL
def EV := aI (aI (aI (aI (aI (aI (aI (@opR_t) (aI (@opR_f) (@gR_tt))) (aI (@gR_ff) (aI (@gR_tf) (@gR_ft)))) (aI (aI (@xik) (aI (@x5g) (@xmi))) (aI (aI (@xii) (@opV_t)) (aI (@opV_f) (@x4g))))) (aI (aI (aI (@x4j) (aI (@mem_c) (@mem_n))) (aI (@xem) (aI (@xlk) (@opD_t)))) (aI (aI (@opD_f) (aI (@gD_tt) (@gD_ff))) (aI (aI (@gD_tf) (@gD_ft)) (aI (@xpk) (@xdh)))))) (aI (aI (aI (aI (@xei) (aI (@tstR_t) (@tstR_f))) (aI (@brR_t) (aI (@brR_f) (@argT_0)))) (aI (aI (@argT_1) (aI (@argT_2) (@argT_3))) (aI (aI (@xri) (@xtj)) (aI (@xyi) (@x9h))))) (aI (aI (aI (@xxg) (aI (@xwf) (@ev_tmp))) (aI (aI (@x6j) (@xsf)) (aI (@x6e) (@xyf)))) (aI (aI (@xje) (aI (@x1f) (@E_move))) (aI (aI (@xak) (@E_pick)) (aI (@x6l) (@xbm))))))) (aI (aI (aI (aI (aI (@E_load) (aI (@xgm) (@x3j))) (aI (@E_len) (aI (@x8l) (@x9g)))) (aI (aI (@x2j) (aI (@E_bin) (@E_binI))) (aI (aI (@E_binS) (@B_add)) (aI (@B_sub) (@B_quo))))) (aI (aI (aI (@B_rem) (aI (@B_and) (@B_eql))) (aI (aI (@B_neq) (@B_lss)) (aI (@B_leq) (@B_gtr)))) (aI (aI (@B_geq) (aI (@S_eql) (@S_neq))) (aI (aI (@S_lss) (@S_add)) (aI (@E_not) (@notK_b)))))) (aI (aI (aI (aI (@x4f) (aI (@xyl) (@xxf))) (aI (@xdm) (aI (@xam) (@xwg)))) (aI (aI (@xci) (aI (@xaf) (@xmk))) (aI (aI (@xsj) (@x5h)) (aI (@xzf) (@xfi))))) (aI (aI (aI (@xdi) (aI (@xpi) (@xnk))) (aI (aI (@xuk) (@xyg)) (aI (@decide_true) (@decide_false)))) (aI (aI (@Nat.zero_add) (aI (@Nat.add_zero) (@and_true))) (aI (aI (@true_and) (@and_self)) (aI (@not_true_eq_false) (@not_false_eq_true)))))))) (aI (aI (aI (aI (aI (aI (@false_implies) (aI (@true_implies) (@Bool.false_eq_true))) (aI (@Bool.true_eq_false) (aI (@or_self) (@or_false)))) (aI (aI (@or_true) (aI (@true_or) (@Bool.and_true))) (aI (aI (@Bool.true_and) (@x5l)) (aI (@x8h) (@xqk))))) (aI (aI (aI (@hs_int) (aI (@hs_str) (@hs_sl))) (aI (aI (@hs_msl) (@hs_mp)) (aI (@iv_int) (@Nat.add_assoc)))) (aI (aI (@Nat.add_left_cancel_iff) (aI (@Nat.add_lt_add_iff_left) (@xbi))) (aI (aI (@x8j) (@xuf)) (aI (@hs_agg) (@xhk)))))) (aI (aI (aI (aI (@x0l) (aI (@x4l) (@xjm))) (aI (@xim) (aI (@one_sl) (@one_mp)))) (aI (aI (@Bool.and_self) (aI (@xwl) (@xah))) (aI (aI (@xki) (@xqi)) (aI (@x2g) (@x5j))))) (aI (aI (aI (@xsi) (aI (@x3g) (@xgh))) (aI (aI (@x7g) (@x1g)) (aI (@xkk) (@xzj)))) (aI (aI (@xrs) (aI (@xlt) (@xlv))) (aI (aI (@xm0) (@xj0)) (aI (@xbz) (@xfz))))))) (aI (aI (aI (aI (aI (@x70) (aI (@xk0) (@xl1))) (aI (@x01) (aI (@xnz) (@xjz)))) (aI (aI (@x9y) (aI (@x8y) (@xb1))) (aI (aI (@xm3) (@xb3)) (aI (@x10) (@xlq))))) (aI (aI (aI (@xwv) (aI (@xvv) (@xa2))) (aI (aI (@xz3) (@xy0)) (aI (@xi0) (@xo4)))) (aI (aI (@xu5) (aI (@xg5) (@xi5))) (aI (aI (@xv7) (@xf2)) (aI (@xm1) (@xu3)))))) (aI (aI (aI (aI (@xf0) (aI (@xn5) (@x2z))) (aI (@Nat.left_eq_add) (aI (@Nat.add_eq_left) (@Nat.add_eq_right)))) (aI (aI (@Nat.lt_add_right_iff_pos) (aI (@xk3) (@s0_str))) (aI (aI (@xm6) (@st1_sl)) (aI (@xu6) (@z_tb))))) (aI (aI (aI (@z_nlt) (aI (@z_bne) (@z_subl))) (aI (aI (@z_sub0) (@z_btt)) (aI (@z_btf) (@z_bft)))) (aI (aI (@z_bff) (aI (@Bool.not_true) (@Bool.not_false))) (aI (aI (@x84) (@xd5)) (aI (@xx5) (@xp4))))))))
def EVd := aI (aI (aI (aI (aI (@xek) (aI (@xui) (@xai))) (aI (@xti) (aI (@xhh) (@x0g)))) (aI (aI (@x6h) (aI (@xzg) (@upd_at))) (aI (aI (@C_skip) (@C_ret)) (aI (@C_exit) (@xzl))))) (aI (aI (aI (@C_goto) (aI (@xwj) (@C_draw))) (aI (@x9l) (aI (@C_seq) (@C_cond)))) (aI (aI (@xxl) (aI (@C_loop) (@x1l))) (aI (aI (@Q_seqN) (@Q_seqE)) (aI (@Q_seqG) (@Q_seqR)))))) (aI (aI (aI (aI (@xuj) (aI (@x9j) (@xvj))) (aI (@xsk) (aI (@Q_finN) (@Q_finR)))) (aI (aI (@xjk) (aI (@xbk) (@xfk))) (aI (aI (@xji) (@x2l)) (aI (@retR_3) (@xdk))))) (aI (aI (aI (@xgk) (aI (@xgi) (@xa8))) (aI (@X_ret) (aI (@X_goto) (@xu4)))) (aI (aI (@xa4) (aI (@xr5) (@L_ret))) (aI (aI (@L_goto) (@U_goto)) (aI (@U_ret) (@U_exit))))))
def R1 := @ld_1
def R2 := @ld_2
def R3 := aI (@ld_3) (aI (@st_3) (@bx_3))
def R9 := aI (aI (@ld_9) (@st_9)) (aI (@bx_9) (aI (@lB_9) (@iB_9)))
def R24 := aI (aI (aI (@ld_24) (@st_24)) (aI (@iS_24) (@iM_24))) (aI (aI (@ap_24) (@bS_24)) (aI (@lS_24) (@lM_24)))
def R26 := aI (aI (@ld_26) (@bx_26)) (aI (@x25) (@xd6))
def R27 := aI (@ld_27) (aI (@iS_27) (@lS_27))
def R29 := aI (aI (@ld_29) (aI (@st_29) (@bx_29))) (aI (aI (@al_29) (@xh6)) (aI (@xv6) (@x86)))
def R30 := aI (aI (aI (@ld_30) (@st_30)) (aI (@bx_30) (@iS_30))) (aI (aI (@ap_30) (@bS_30)) (aI (@lS_30) (@lM_30)))
def R32 := aI (aI (aI (@ld_32) (@st_32)) (aI (@bx_32) (@al_32))) (aI (aI (@xo7) (@xd8)) (aI (@xf6) (@bd_32)))
def R42 := aI (aI (@iS_42) (aI (@iM_42) (@ap_42))) (aI (@bS_42) (aI (@lS_42) (@lM_42)))
def R45 := aI (aI (@ld_45) (aI (@st_45) (@bx_45))) (aI (aI (@al_45) (@xs7)) (aI (@xw7) (@bd_45)))
def R55 := aI (aI (aI (@ld_55) (@st_55)) (aI (@bx_55) (aI (@al_55) (@x75)))) (aI (aI (@x67) (aI (@xb8) (@x97))) (aI (@x07) (aI (@xa6) (@bd_55))))
def R61 := aI (@ld_61) (@lS_61)
def R62 := aI (aI (@ld_62) (aI (@st_62) (@iS_62))) (aI (aI (@ap_62) (@bS_62)) (aI (@lS_62) (@lN_62)))
def R66 := aI (aI (@ld_66) (@bx_66)) (aI (@x36) (aI (@xh7) (@xo6)))
def R68 := aI (aI (aI (@ld_68) (aI (@st_68) (@bx_68))) (aI (aI (@al_68) (@x57)) (aI (@x06) (@xj6)))) (aI (aI (@x96) (aI (@x27) (@xq6))) (aI (aI (@xx6) (@xe8)) (aI (@xn7) (@bd_68))))
def R73 := aI (aI (aI (@ld_73) (@st_73)) (aI (@iS_73) (@iM_73))) (aI (aI (@ap_73) (@bS_73)) (aI (@lS_73) (@lM_73)))
def R74 := aI (aI (@iS_74) (@iM_74)) (aI (@ap_74) (aI (@bS_74) (@lS_74)))
def R79 := aI (aI (aI (@ld_79) (@st_79)) (aI (@bx_79) (aI (@al_79) (@x85)))) (aI (aI (@xr7) (aI (@xn6) (@xt6))) (aI (@xb6) (aI (@x55) (@bd_79))))
def R92 := aI (aI (@ld_92) (aI (@st_92) (@bx_92))) (aI (@al_92) (aI (@x87) (@bd_92)))
def R106 := aI (@iS_106) (@lS_106)
def R111 := aI (@iS_111) (aI (@bS_111) (@lS_111))
def R112 := aI (aI (@ld_112) (@lk_112)) (aI (@mu_112) (@zero_3))
def R113 := aI (aI (@ld_113) (@st_113)) (aI (@ap_113) (@bS_113))
def R115 := aI (aI (@bx_115) (aI (@xl5) (@xh5))) (aI (@xz5) (aI (@xb5) (@bd_115)))
def R144 := @bd_144
def DEntry := aI (aI (@x83) (aI (@x13) (@xi4))) (aI (aI (@x33) (@xd1)) (aI (@xq0) (@xv0)))
def DAttr := aI (@xa7) (@xt2)
def DNode := aI (aI (aI (@xx7) (aI (@x37) (@xb7))) (aI (aI (@x22) (@xd3)) (aI (@xn2) (@xu2)))) (aI (aI (@xk2) (aI (@x62) (@x12))) (aI (aI (@xez) (@xd2)) (aI (@xq2) (@xv2))))
def DBranch := aI (aI (@xo3) (@xi2)) (aI (@x80) (@xl3))
def DStack := aI (aI (aI (@xg4) (@xe5)) (aI (@xc5) (@xs5))) (aI (aI (@xfy) (@xo0)) (aI (@xc1) (@xh1)))
def DPlace := aI (aI (@xm4) (aI (@xa5) (@xp5))) (aI (aI (@xk4) (@x94)) (aI (@xj1) (@x00)))
def DView := aI (aI (@xe6) (aI (@xc7) (@xj7))) (aI (@xg6) (aI (@x92) (@x41)))
def DWay := aI (aI (@hs_Way) (aI (@la_Way) (@sz_Way))) (aI (@xh4) (aI (@xm5) (@x34)))
def xw5 := @xe1
def ZL := aI (aI (aI (@xwv) (@xlq)) (aI (@xlt) (@xlv))) (aI (aI (@xvv) (@Nat.zero_add)) (aI (@Nat.add_zero) (aI (@Nat.add_assoc) (@Nat.one_mul))))
def CLO := aI (aI (aI (aI (@cM_int) (aI (@cM_str) (@xee))) (aI (aI (@xle) (@c_Attr)) (aI (@xli) (@c_Node)))) (aI (aI (@xdg) (aI (@xlg) (@xxj))) (aI (aI (@xym) (@xfm)) (aI (@xyr) (@c_View))))) (aI (aI (aI (@x9o) (aI (@cM_Way) (@xa1))) (aI (aI (@x8w) (@xqz)) (aI (@xcx) (@xzx)))) (aI (aI (@x1x) (aI (@xhz) (@x5w))) (aI (aI (@xxu) (@Bool.and_true)) (aI (@Bool.true_and) (@Bool.and_self)))))
end Go.Proofs.YtapdjibjnfeipaaGreatDoor.AL

