/- What any node of any stack should say of copies, and which say otherwise, is what the document says: part 30 of 51. -/
import Derived.Test.YtfefidkblgendaaGreatDoorA29
set_option linter.all false
/- Bundles of equations for the walks: printed by bundle.py. -/
set_option linter.all false
namespace Go.Proofs.YtfefidkblgendaaGreatDoor.AL
def EV := aI (aI (aI (aI (aI (aI (aI (@opR_t) (aI (@opR_f) (@gR_tt))) (aI (@gR_ff) (aI (@gR_tf) (@gR_ft)))) (aI (aI (@x2m) (aI (@xcj) (@x3k))) (aI (@x1k) (aI (@opV_t) (@opV_f))))) (aI (aI (aI (@xpj) (aI (@xjm) (@mem_c))) (aI (@mem_n) (aI (@xto) (@xrm)))) (aI (aI (@opD_t) (aI (@opD_f) (@gD_tt))) (aI (@gD_ff) (aI (@gD_tf) (@gD_ft)))))) (aI (aI (aI (aI (@xym) (aI (@xhj) (@tstR_t))) (aI (@tstR_f) (aI (@brR_t) (@brR_f)))) (aI (aI (@argT_0) (aI (@argT_1) (@argT_2))) (aI (@argT_3) (aI (@x2k) (@xtm))))) (aI (aI (aI (@xxk) (aI (@x6k) (@xej))) (aI (@xrh) (aI (@ev_tmp) (@xom)))) (aI (aI (@xvh) (aI (@xog) (@xuh))) (aI (aI (@xqf) (@E_move)) (aI (@xxm) (@xpk))))))) (aI (aI (aI (aI (aI (@E_pick) (aI (@x5o) (@xzo))) (aI (@E_load) (aI (@xuo) (@xvm)))) (aI (aI (@E_len) (aI (@xlo) (@E_bin))) (aI (@E_binI) (aI (@E_binS) (@B_add))))) (aI (aI (aI (@B_sub) (aI (@B_quo) (@B_rem))) (aI (@B_and) (aI (@B_eql) (@B_neq)))) (aI (aI (@B_lss) (aI (@B_leq) (@B_gtr))) (aI (aI (@B_geq) (@S_eql)) (aI (@S_neq) (@S_lss)))))) (aI (aI (aI (aI (@S_add) (aI (@E_not) (@notK_b))) (aI (@xph) (aI (@xwo) (@xqh)))) (aI (aI (@x6o) (aI (@x3o) (@xdj))) (aI (@x4k) (aI (@xtg) (@x5l))))) (aI (aI (aI (@x3m) (aI (@xjk) (@xlh))) (aI (@xlk) (aI (@xnk) (@xdm)))) (aI (aI (@xnm) (aI (@x0i) (@decide_true))) (aI (aI (@decide_false) (@Nat.zero_add)) (aI (@Nat.add_zero) (@and_true)))))))) (aI (aI (aI (aI (aI (aI (@true_and) (aI (@and_self) (@not_true_eq_false))) (aI (@not_false_eq_true) (aI (@false_implies) (@true_implies)))) (aI (aI (@Bool.false_eq_true) (aI (@Bool.true_eq_false) (@or_self))) (aI (@or_false) (aI (@or_true) (@true_or))))) (aI (aI (aI (@Bool.and_true) (aI (@Bool.true_and) (@xoo))) (aI (@xrk) (aI (@xbm) (@xem)))) (aI (aI (@hs_int) (aI (@hs_str) (@hs_sl))) (aI (aI (@iv_int) (@Nat.add_assoc)) (aI (@Nat.add_left_cancel_iff) (@Nat.add_lt_add_iff_left)))))) (aI (aI (aI (aI (@hs_agg) (aI (@xim) (@xpo))) (aI (@x1o) (aI (@xko) (@x2o)))) (aI (aI (@one_sl) (aI (@Bool.and_self) (@xyo))) (aI (@xkj) (aI (@xmk) (@xqk))))) (aI (aI (aI (@xmj) (aI (@xfm) (@xok))) (aI (@xfj) (aI (@xgj) (@xzi)))) (aI (aI (@xnj) (aI (@xgm) (@x0w))) (aI (aI (@xey) (@xv1)) (aI (@xm8) (@x47))))))) (aI (aI (aI (aI (aI (@x35) (aI (@x45) (@xu8))) (aI (@xj8) (aI (@xg8) (@xb9)))) (aI (aI (@xn6) (aI (@x75) (@xl6))) (aI (@xz6) (aI (@xq7) (@xcbb))))) (aI (aI (aI (@xbbb) (aI (@x87) (@xst))) (aI (@x81) (aI (@xq1) (@xabb)))) (aI (aI (@xcdb) (aI (@xe8) (@xk8))) (aI (aI (@x3bb) (@x3cb)) (aI (@x9cb) (@xjcb)))))) (aI (aI (aI (aI (@x4eb) (aI (@xuab) (@xp7))) (aI (@x3ab) (aI (@xv7) (@xvbb)))) (aI (aI (@xjeb) (aI (@Nat.left_eq_add) (@Nat.add_eq_left))) (aI (@Nat.add_eq_right) (aI (@Nat.lt_add_right_iff_pos) (@s0_str))))) (aI (aI (aI (@x4db) (aI (@st1_sl) (@z_tb))) (aI (@z_bne) (aI (@z_subl) (@z_btt)))) (aI (aI (@z_btf) (aI (@z_bft) (@z_bff))) (aI (aI (@Bool.not_true) (@Bool.not_false)) (aI (@xxbb) (@xwbb))))))))
def EVd := aI (aI (aI (aI (aI (@xwm) (@xkk)) (aI (@xwk) (aI (@xsk) (@x2i)))) (aI (aI (@xoj) (aI (@xuk) (@xij))) (aI (@upd_at) (aI (@C_skip) (@C_ret))))) (aI (aI (aI (@C_exit) (aI (@xmo) (@C_goto))) (aI (@x8m) (aI (@C_draw) (@x4o)))) (aI (aI (@C_seq) (aI (@C_cond) (@xso))) (aI (@C_loop) (aI (@xho) (@Q_seqN)))))) (aI (aI (aI (aI (@Q_seqE) (aI (@Q_seqG) (@Q_seqR))) (aI (@x7l) (aI (@x7m) (@x0m)))) (aI (aI (@xsm) (aI (@Q_finR) (@xkm))) (aI (@xqm) (aI (@xtk) (@xxo))))) (aI (aI (aI (@retR_3) (aI (@x8l) (@x1m))) (aI (@x0k) (aI (@xqdb) (@X_ret)))) (aI (aI (@X_goto) (aI (@L_ret) (@L_goto))) (aI (@U_goto) (aI (@U_ret) (@U_exit))))))
def R1 := @ld_1
def R2 := @ld_2
def R3 := aI (@ld_3) (aI (@st_3) (@bx_3))
def R4 := @bq_4
def R5 := @ld_5
def R9 := aI (aI (@ld_9) (@st_9)) (aI (@bx_9) (aI (@lB_9) (@iB_9)))
def R24 := aI (@ld_24) (aI (@iS_24) (@lS_24))
def R26 := aI (aI (@ld_26) (@bx_26)) (aI (@xneb) (@xzeb))
def R27 := aI (@ld_27) (aI (@iS_27) (@lS_27))
def R29 := aI (aI (@ld_29) (aI (@st_29) (@bx_29))) (aI (@al_29) (aI (@x8eb) (@xdeb)))
def R30 := aI (aI (@ld_30) (@st_30)) (aI (@iS_30) (aI (@bS_30) (@lS_30)))
def R31 := aI (aI (aI (@ld_31) (@st_31)) (aI (@iS_31) (@iM_31))) (aI (aI (@ap_31) (@bS_31)) (aI (@lS_31) (@lM_31)))
def R33 := aI (aI (aI (@ld_33) (@st_33)) (aI (@bx_33) (@al_33))) (aI (aI (@xjdb) (@xudb)) (aI (@xwfb) (@bd_33)))
def R40 := aI (aI (aI (@ld_40) (@st_40)) (aI (@bx_40) (@iS_40))) (aI (aI (@ap_40) (@bS_40)) (aI (@lS_40) (@lM_40)))
def R42 := aI (aI (@ld_42) (aI (@st_42) (@bx_42))) (aI (aI (@al_42) (@xkdb)) (aI (@xndb) (@bd_42)))
def R44 := aI (aI (@ld_44) (aI (@st_44) (@bx_44))) (aI (aI (@al_44) (@x3db)) (aI (@xzfb) (@bd_44)))
def R61 := aI (aI (@ld_61) (aI (@st_61) (@al_61))) (aI (aI (@xpeb) (@xxfb)) (aI (@xdfb) (@bd_61)))
def R65 := aI (@ld_65) (aI (@iS_65) (@lS_65))
def R67 := aI (aI (@ld_67) (@bx_67)) (aI (@x9db) (aI (@xyeb) (@xtdb)))
def R69 := aI (aI (@ld_69) (aI (@bx_69) (@x5db))) (aI (@xaeb) (aI (@xueb) (@xveb)))
def R71 := aI (aI (aI (@ld_71) (aI (@st_71) (@bx_71))) (aI (@al_71) (aI (@x2db) (@xleb)))) (aI (aI (@x7eb) (aI (@xmeb) (@xhfb))) (aI (@x6db) (aI (@x1eb) (@bd_71))))
def R73 := aI (aI (@ld_73) (aI (@st_73) (@bx_73))) (aI (@al_73) (aI (@xifb) (@bd_73)))
def R76 := aI (aI (aI (@ld_76) (@st_76)) (aI (@bx_76) (aI (@al_76) (@x2fb)))) (aI (aI (@x2eb) (aI (@xheb) (@xlfb))) (aI (@xsfb) (aI (@x6eb) (@bd_76))))
def R98 := aI (@iS_98) (@lS_98)
def DEntry := aI (aI (@xgbb) (aI (@xedb) (@xccb))) (aI (aI (@xhcb) (@xh8)) (aI (@xy8) (@xy7)))
def DOrigin := aI (aI (@x68) (@xj6)) (aI (@xb6) (@xe6))
def DAttr := aI (@xweb) (@xfab)
def DNode := aI (aI (aI (@xoeb) (aI (@x1fb) (@xnfb))) (aI (aI (@xeeb) (@xwab)) (aI (@xk9) (@xiab)))) (aI (aI (aI (@xj9) (@xu9)) (aI (@xlab) (@xf6))) (aI (aI (@xnab) (@x89)) (aI (@xi9) (@x85))))
def DBranch := aI (@x7ab) (aI (@x5ab) (@xr8))
def DStack := aI (aI (@xibb) (aI (@xjbb) (@xpbb))) (aI (aI (@xkcb) (@x54)) (aI (@xs7) (@xo8)))
def DSeen := aI (aI (@x0eb) (aI (@xxdb) (@xqeb))) (aI (@xf9) (aI (@xsab) (@x99)))
def DPlace := aI (aI (@xadb) (aI (@xycb) (@xlbb))) (aI (aI (@xrbb) (@xdbb)) (aI (@x57) (@x67)))
def DView := aI (aI (@x7db) (aI (@xseb) (@xcfb))) (aI (aI (@xceb) (@xbfb)) (aI (@xq9) (@x9ab)))
def xtt := aI (aI (aI (@xg0) (aI (@x30) (@x3z))) (aI (@xcv) (aI (@xeu) (@x1x)))) (aI (aI (@x5x) (aI (@x4u) (@xrv))) (aI (@xjx) (aI (@xox) (@xqx))))
def ZL := aI (aI (aI (@x81) (@xst)) (aI (@xey) (@xv1))) (aI (aI (@xq1) (@Nat.zero_add)) (aI (@Nat.add_zero) (aI (@Nat.add_assoc) (@Nat.one_mul))))
def CLO := aI (aI (aI (aI (@cM_str) (aI (@cM_u8) (@xcg))) (aI (@xmg) (aI (@xag) (@c_Attr)))) (aI (aI (@xpm) (aI (@c_Node) (@x5k))) (aI (aI (@xhk) (@xio)) (aI (@c_Seen) (@x2x))))) (aI (aI (aI (@xcw) (aI (@c_View) (@xh3))) (aI (aI (@xx4) (@xo6)) (aI (@xv5) (@xu4)))) (aI (aI (@xg4) (aI (@xt6) (@xf3))) (aI (aI (@xf0) (@Bool.and_true)) (aI (@Bool.true_and) (@Bool.and_self)))))
end Go.Proofs.YtfefidkblgendaaGreatDoor.AL

