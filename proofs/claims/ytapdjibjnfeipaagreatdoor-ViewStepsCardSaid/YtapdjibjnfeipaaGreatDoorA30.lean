/- What any node of any stack should say of copies, and which say otherwise, is what the document says: part 30 of 52. -/
import Derived.Test.YtapdjibjnfeipaaGreatDoorA29
set_option linter.all false
/- Bundles of equations for the walks: printed by bundle.py. -/
set_option linter.all false
namespace Go.Proofs.YtapdjibjnfeipaaGreatDoor.AL
def EV := aI (aI (aI (aI (aI (aI (aI (@opR_t) (aI (@opR_f) (@gR_tt))) (aI (@gR_ff) (aI (@gR_tf) (@gR_ft)))) (aI (aI (@x3l) (aI (@xli) (@xek))) (aI (aI (@xpk) (@opV_t)) (aI (@opV_f) (@xri))))) (aI (aI (aI (@xwm) (aI (@mem_c) (@mem_n))) (aI (@x8n) (aI (@x1l) (@opD_t)))) (aI (aI (@opD_f) (aI (@gD_tt) (@gD_ff))) (aI (aI (@gD_tf) (@gD_ft)) (aI (@xqm) (@xcj)))))) (aI (aI (aI (aI (@xfk) (aI (@tstR_t) (@tstR_f))) (aI (@brR_t) (aI (@brR_f) (@argT_0)))) (aI (aI (@argT_1) (aI (@argT_2) (@argT_3))) (aI (aI (@xwk) (@x0l)) (aI (@xck) (@xqk))))) (aI (aI (aI (@x7i) (aI (@xph) (@ev_tmp))) (aI (aI (@xem) (@xkh)) (aI (@xdg) (@xsh)))) (aI (aI (@xqf) (aI (@xuh) (@E_move))) (aI (aI (@x7l) (@E_pick)) (aI (@xqo) (@xgo))))))) (aI (aI (aI (aI (aI (@E_load) (aI (@x7n) (@xsm))) (aI (@E_len) (aI (@x6n) (@xwi)))) (aI (aI (@xjm) (aI (@E_bin) (@E_binI))) (aI (aI (@E_binS) (@B_add)) (aI (@B_sub) (@B_quo))))) (aI (aI (aI (@B_rem) (aI (@B_and) (@B_eql))) (aI (@B_neq) (aI (@B_lss) (@B_leq)))) (aI (aI (@B_gtr) (aI (@B_geq) (@S_eql))) (aI (aI (@S_neq) (@S_lss)) (aI (@S_add) (@E_not)))))) (aI (aI (aI (aI (@notK_b) (aI (@xmh) (@xno))) (aI (@xlh) (aI (@xjo) (@xho)))) (aI (aI (@xgj) (aI (@xjk) (@xfg))) (aI (aI (@x8l) (@xyl)) (aI (@xsk) (@xqh))))) (aI (aI (aI (@xmk) (aI (@x7j) (@x5j))) (aI (aI (@xfm) (@xum)) (aI (@x1i) (@decide_true)))) (aI (aI (@decide_false) (aI (@Nat.zero_add) (@Nat.add_zero))) (aI (aI (@and_true) (@true_and)) (aI (@and_self) (@not_true_eq_false)))))))) (aI (aI (aI (aI (aI (aI (@not_false_eq_true) (aI (@false_implies) (@true_implies))) (aI (@Bool.false_eq_true) (aI (@Bool.true_eq_false) (@or_self)))) (aI (aI (@or_false) (aI (@or_true) (@true_or))) (aI (aI (@Bool.and_true) (@Bool.true_and)) (aI (@xoo) (@xgk))))) (aI (aI (aI (@xxl) (aI (@hs_int) (@hs_str))) (aI (@hs_sl) (aI (@hs_msl) (@hs_mp)))) (aI (aI (@iv_int) (aI (@Nat.add_assoc) (@Nat.add_left_cancel_iff))) (aI (aI (@Nat.add_lt_add_iff_left) (@xuk)) (aI (@x0m) (@xth)))))) (aI (aI (aI (aI (@hs_agg) (aI (@x1m) (@xco))) (aI (@xao) (aI (@x9n) (@xbo)))) (aI (aI (@one_sl) (aI (@one_mp) (@Bool.and_self))) (aI (aI (@xko) (@xvi)) (aI (@x8j) (@xkk))))) (aI (aI (aI (@xzi) (aI (@x6l) (@xik))) (aI (aI (@xpi) (@xdj)) (aI (@xxi) (@x0i)))) (aI (aI (@xdm) (aI (@xim) (@xmw))) (aI (aI (@xux) (@x8z)) (aI (@xa6) (@x66))))))) (aI (aI (aI (aI (aI (@xx4) (aI (@xz4) (@xm6))) (aI (@x16) (aI (@xq5) (@xf8)))) (aI (aI (@xr4) (aI (@x84) (@xu4))) (aI (aI (@xl4) (@xx5)) (aI (@xr7) (@xl8))))) (aI (aI (aI (@x95) (aI (@xou) (@x4z))) (aI (aI (@xl0) (@xm8)) (aI (@xkab) (@x25)))) (aI (aI (@xr5) (aI (@xu9) (@xbab))) (aI (aI (@xkbb) (@xh9)) (aI (@xmcb) (@x18)))))) (aI (aI (aI (aI (@xp6) (aI (@x68) (@x35))) (aI (@xv9) (aI (@x4bb) (@Nat.left_eq_add)))) (aI (aI (@Nat.add_eq_left) (aI (@Nat.add_eq_right) (@Nat.lt_add_right_iff_pos))) (aI (aI (@xh8) (@s0_str)) (aI (@x6bb) (@st1_sl))))) (aI (aI (aI (@xrdb) (aI (@z_tb) (@z_bne))) (aI (aI (@z_subl) (@z_btt)) (aI (@z_btf) (@z_bft)))) (aI (aI (@z_bff) (aI (@Bool.not_true) (@Bool.not_false))) (aI (aI (@xmab) (@xoab)) (aI (@xs9) (@xo9))))))))
def EVd := aI (aI (aI (aI (aI (@xmm) (aI (@xok) (@xrk))) (aI (@xvk) (aI (@x2i) (@xbj)))) (aI (aI (@x9j) (aI (@xej) (@upd_at))) (aI (aI (@C_skip) (@C_ret)) (aI (@C_exit) (@xpo))))) (aI (aI (aI (@C_goto) (aI (@xzl) (@C_draw))) (aI (@x4n) (aI (@C_seq) (@C_cond)))) (aI (aI (@xlo) (aI (@C_loop) (@xio))) (aI (aI (@Q_seqN) (@Q_seqE)) (aI (@Q_seqG) (@Q_seqR)))))) (aI (aI (aI (aI (@x5l) (aI (@xhm) (@xtm))) (aI (@xom) (aI (@Q_finN) (@Q_finR)))) (aI (aI (@xgm) (aI (@xbm) (@xvl))) (aI (aI (@xdk) (@xdo)) (aI (@retR_3) (@xrm))))) (aI (aI (aI (@xvm) (aI (@xhk) (@xzbb))) (aI (@X_ret) (aI (@X_goto) (@xvab)))) (aI (aI (@xp9) (aI (@xfbb) (@L_ret))) (aI (aI (@L_goto) (@U_goto)) (aI (@U_ret) (@U_exit))))))
def R1 := @ld_1
def R2 := @ld_2
def R3 := aI (@ld_3) (aI (@st_3) (@bx_3))
def R4 := @bn_4
def R9 := aI (aI (@ld_9) (@st_9)) (aI (@bx_9) (aI (@lB_9) (@iB_9)))
def R24 := aI (@ld_24) (aI (@iS_24) (@lS_24))
def R26 := aI (aI (@ld_26) (@bx_26)) (aI (@xvcb) (@xocb))
def R27 := aI (@ld_27) (aI (@iS_27) (@lS_27))
def R29 := aI (aI (@ld_29) (aI (@st_29) (@bx_29))) (aI (@al_29) (aI (@x3cb) (@xudb)))
def R30 := aI (aI (aI (@ld_30) (@st_30)) (aI (@bx_30) (@iS_30))) (aI (aI (@ap_30) (@bS_30)) (aI (@lS_30) (@lM_30)))
def R32 := aI (aI (aI (@ld_32) (@st_32)) (aI (@bx_32) (@al_32))) (aI (aI (@xqdb) (@x9cb)) (aI (@x5cb) (@bd_32)))
def R42 := aI (aI (@iS_42) (aI (@iM_42) (@ap_42))) (aI (@bS_42) (aI (@lS_42) (@lM_42)))
def R45 := aI (aI (@ld_45) (aI (@st_45) (@bx_45))) (aI (aI (@al_45) (@xacb)) (aI (@x1bb) (@bd_45)))
def R55 := aI (aI (aI (@ld_55) (@st_55)) (aI (@bx_55) (aI (@al_55) (@xpdb)))) (aI (aI (@xccb) (aI (@xxcb) (@xqcb))) (aI (@xubb) (aI (@xidb) (@bd_55))))
def R61 := aI (@ld_61) (@lS_61)
def R62 := aI (aI (@ld_62) (aI (@iS_62) (@ap_62))) (aI (@bS_62) (aI (@lS_62) (@lN_62)))
def R66 := aI (aI (@ld_66) (@bx_66)) (aI (@xlcb) (aI (@xwcb) (@xjcb)))
def R68 := aI (aI (aI (@ld_68) (aI (@st_68) (@bx_68))) (aI (aI (@al_68) (@xfdb)) (aI (@xjdb) (@x7cb)))) (aI (aI (@x0cb) (aI (@xscb) (@xsdb))) (aI (aI (@x1cb) (@x7bb)) (aI (@xhcb) (@bd_68))))
def R73 := aI (aI (aI (@ld_73) (@st_73)) (aI (@iS_73) (@iM_73))) (aI (aI (@ap_73) (@bS_73)) (aI (@lS_73) (@lM_73)))
def R74 := aI (aI (@iS_74) (@iM_74)) (aI (@ap_74) (aI (@bS_74) (@lS_74)))
def R79 := aI (aI (aI (@ld_79) (@st_79)) (aI (@bx_79) (aI (@al_79) (@x8bb)))) (aI (aI (@xbdb) (aI (@x0db) (@xwdb))) (aI (@xicb) (aI (@xedb) (@bd_79))))
def R92 := aI (aI (@ld_92) (aI (@st_92) (@bx_92))) (aI (@al_92) (aI (@x8cb) (@bd_92)))
def R106 := aI (@iS_106) (@lS_106)
def R111 := aI (@iS_111) (aI (@bS_111) (@lS_111))
def R112 := aI (aI (@ld_112) (@lk_112)) (aI (@mu_112) (@zero_3))
def R113 := aI (aI (@ld_113) (@st_113)) (aI (@ap_113) (@bS_113))
def R115 := aI (aI (@bx_115) (aI (@xjab) (@xqab))) (aI (@xtab) (aI (@xr9) (@bd_115)))
def R144 := @bd_144
def DEntry := aI (aI (@xabb) (aI (@x2ab) (@x99))) (aI (aI (@xf9) (@xx6)) (aI (@x26) (@xs6)))
def DAttr := aI (@xvbb) (@xv7)
def DNode := aI (aI (aI (@x1db) (aI (@x2bb) (@x4cb))) (aI (@xj8) (aI (@xy8) (@xr8)))) (aI (aI (@xv8) (aI (@x08) (@xc8))) (aI (aI (@xv4) (@xx8)) (aI (@x96) (@x78))))
def DBranch := aI (aI (@xa7) (@x28)) (aI (@xh6) (@xi7))
def DStack := aI (aI (@xyab) (aI (@xgbb) (@xqbb))) (aI (aI (@xhbb) (@x53)) (aI (@xz5) (@xz6)))
def DPlace := aI (aI (@x89) (aI (@xeab) (@xlab))) (aI (aI (@xrab) (@xgab)) (aI (@xv5) (@xw5)))
def DView := aI (aI (@x5bb) (aI (@xgcb) (@x0bb))) (aI (@xucb) (aI (@xq8) (@xx7)))
def DWay := aI (aI (@hs_Way) (aI (@la_Way) (@sz_Way))) (aI (@xobb) (aI (@xfab) (@xj9)))
def x09 := @xn6
def ZL := aI (aI (aI (@x4z) (@xou)) (aI (@xux) (@x8z))) (aI (aI (@xl0) (@Nat.zero_add)) (aI (@Nat.add_zero) (aI (@Nat.add_assoc) (@Nat.one_mul))))
def CLO := aI (aI (aI (aI (@cM_int) (aI (@cM_str) (@xif))) (aI (aI (@xuf) (@c_Attr)) (aI (@xnk) (@c_Node)))) (aI (aI (@x3h) (aI (@x0h) (@xkm))) (aI (aI (@x7o) (@x5n)) (aI (@xiv) (@c_View))))) (aI (aI (aI (@xds) (aI (@cM_Way) (@xy5))) (aI (aI (@xw2) (@xt4)) (aI (@xz3) (@xv1)))) (aI (aI (@x43) (aI (@xj4) (@xg1))) (aI (aI (@xly) (@Bool.and_true)) (aI (@Bool.true_and) (@Bool.and_self)))))
end Go.Proofs.YtapdjibjnfeipaaGreatDoor.AL

