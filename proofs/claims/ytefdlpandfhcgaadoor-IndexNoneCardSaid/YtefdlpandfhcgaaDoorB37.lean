/- A law of the given program is proved: part 37 of 51. -/
import Derived.Test.YtefdlpandfhcgaaDoorChecked
import Derived.Lib.Repeat
import Derived.Test.YtefdlpandfhcgaaDoorB36
set_option linter.all false
/- AL: the functions of this seat's translation in AL's short form, written by gencode.py out of Lean's own print of them; each with the fact that it is so. -/
set_option maxRecDepth 100000
namespace Go.Proofs.YtefdlpandfhcgaaDoor.AL
open Go Go.Proofs
def xtf : AC := (.seq (.region [zo (.assign (zi (0))) 4]) (.seq (.seq (.region [zo (.move (zt 0)) 6, zo (.call (zc (.builtin .len) #[zt 6] #[32])) 7, zo (.move (zi (0))) 8]) (.block 0 (.loop (.seq (.region [zo (.binOp .lss 3 (zt 8) (zt 7) 3) 9]) (.seq (.cond (zt 9) .skip (.exit 0)) (.seq (.block 1 (.seq (.region [zo (.move (zt 8)) 10, zo (.assign (zt 10)) 5]) (.seq (.region [zo (.move (zt 1)) 11, zo (.move (zt 0)) 12, zo (.move (zt 5)) 13, zo (.indexAddr 32 (zt 12) (zt 13)) 14, zo (.load 44 (zt 14)) 15, zo (.call (zc (.value (zt 11)) #[zt 15] #[44])) 16]) (.cond (zt 16) (.seq (.region [zo (.move (zt 5)) 17, zo (.assign (zt 17)) 4]) .ret) .skip)))) (.region [zo (.binOp .add 3 (zt 8) (zi (1)) 3) 18, zo (.move (zt 18)) 8]))))))) (.seq (.region [zo (.assign (zi ((-1)))) 4]) .ret)))
theorem xsf : FnC Tryd.prog 72 19 [.tmp 4] xtf := ⟨by kernel_rfl, Tryd.f72, _, Tryd.func72, rfl, rfl, rfl, by kernel_rfl⟩
def xve : AC := (.seq (.region [zo (.assign (.const (Value.bool false))) 4]) (.seq (.region [zo (.move (zt 0)) 5, zo (.move (zt 1)) 6, zo (.call (zc (.value (.func 87)) #[zt 5, zt 6] #[40, 86])) 7, zo (.binOp .geq 3 (zt 7) (zi (0)) 3) 8, zo (.assign (zt 8)) 4]) .ret))
theorem xme : FnC Tryd.prog 73 9 [.tmp 4] xve := ⟨by kernel_rfl, Tryd.f73, _, Tryd.func73, rfl, rfl, rfl, by kernel_rfl⟩
def xco : AC := (.seq (.region [zo (.box 51 (zt 0)) 1, zo (.assign (.const (Value.bool false))) 2]) (.seq (.region [zo (.fieldAddr 51 (zt 1) 2) 3, zo (.load 9 (zt 3)) 4, zo (.call (zc (.value (.func 88)) #[zt 4] #[9])) 5, zo (.unOp .not 4 (zt 5)) 6, zo (.assign (zt 6)) 2]) .ret))
theorem xpu : FnC Tryd.prog 74 7 [.tmp 2] xco := ⟨by kernel_rfl, Tryd.f74, _, Tryd.func74, rfl, rfl, rfl, by kernel_rfl⟩
def x8j : AC := (.seq (.region [zo (.box 34 (zt 0)) 2, zo (.assign (.const (Value.pointer none))) 4]) (.seq (.region [zo (.load 34 (zt 2)) 9, zo (.makeMap 146 none) 10, zo (.build 150 #[(0, zt 9), (2, zt 10)]) 11, zo (.box 150 (zt 11)) 12, zo (.assign (zt 12)) 5]) (.seq (.region [zo (.assign (zi (0))) 6]) (.seq (.seq (.region [zo (.move (zt 1)) 13, zo (.call (zc (.builtin .len) #[zt 13] #[128])) 14, zo (.move (zi (0))) 15]) (.block 0 (.loop (.seq (.region [zo (.binOp .lss 3 (zt 15) (zt 14) 3) 16]) (.seq (.cond (zt 16) .skip (.exit 0)) (.seq (.block 1 (.seq (.region [zo (.indexAddr 128 (zt 13) (zt 15)) 17, zo (.load 3 (zt 17)) 18, zo (.assign (zt 18)) 8]) (.scope (.seq (.seq (.region [zo (.move (zt 5)) 19, zo (.move (zt 8)) 20, zo (.call (zc (.value (.func 89)) #[zt 19, zt 20] #[129, 3])) 21, zo (.field 44 (zt 21) 0) 22, zo (.binOp .eql 3 (zt 22) (zi (1)) 3) 23]) (.cond (zt 23) (.region [zo (.move (zt 5)) 24, zo (.move (zt 8)) 25, zo (.build 153 #[(0, zt 25), (1, .const (Value.int .i64 (-1)))]) 26, zo (.call (zc (.value (.func 90)) #[zt 24, zt 26] #[129, 153])) 27]) .skip)) (.seq (.label 0) (.seq (.region [zo (.move (zt 6)) 28, zo (.move (zt 5)) 29, zo (.nilCheck (zt 29)) 30, zo (.fieldAddr 150 (zt 30) 1) 31, zo (.load 147 (zt 31)) 32, zo (.call (zc (.builtin .len) #[zt 32] #[147])) 33, zo (.binOp .lss 3 (zt 28) (zt 33) 3) 34]) (.cond (zt 34) (.seq (.region [zo (.move (zt 5)) 35, zo (.move (zt 6)) 36, zo (.call (zc (.value (.func 91)) #[zt 35, zt 36] #[129, 3])) 37]) (.seq (.region [zo (.move (zt 6)) 38, zo (.binOp .add 3 (zt 38) (zi (1)) 3) 39, zo (.assign (zt 39)) 6]) (.goto 0))) .skip))))))) (.region [zo (.binOp .add 3 (zt 15) (zi (1)) 3) 40, zo (.move (zt 40)) 15]))))))) (.seq (.region [zo (.move (zt 5)) 41, zo (.assign (zt 41)) 4]) .ret)))))
theorem x0l : FnC Tryd.prog 75 42 [.tmp 4] x8j := ⟨by kernel_rfl, Tryd.f75, _, Tryd.func75, rfl, rfl, rfl, by kernel_rfl⟩
def xpf : AC := (.seq (.region [zo (.assign (zi (0))) 4]) (.seq (.seq (.region [zo (.move (zt 0)) 6, zo (.call (zc (.builtin .len) #[zt 6] #[40])) 7, zo (.move (zi (0))) 8]) (.block 0 (.loop (.seq (.region [zo (.binOp .lss 3 (zt 8) (zt 7) 3) 9]) (.seq (.cond (zt 9) .skip (.exit 0)) (.seq (.block 1 (.seq (.region [zo (.move (zt 8)) 10, zo (.assign (zt 10)) 5]) (.seq (.region [zo (.move (zt 1)) 11, zo (.move (zt 0)) 12, zo (.move (zt 5)) 13, zo (.indexAddr 40 (zt 12) (zt 13)) 14, zo (.load 51 (zt 14)) 15, zo (.call (zc (.value (zt 11)) #[zt 15] #[51])) 16]) (.cond (zt 16) (.seq (.region [zo (.move (zt 5)) 17, zo (.assign (zt 17)) 4]) .ret) .skip)))) (.region [zo (.binOp .add 3 (zt 8) (zi (1)) 3) 18, zo (.move (zt 18)) 8]))))))) (.seq (.region [zo (.assign (zi ((-1)))) 4]) .ret)))
theorem xaf : FnC Tryd.prog 87 19 [.tmp 4] xpf := ⟨by kernel_rfl, Tryd.f87, _, Tryd.func87, rfl, rfl, rfl, by kernel_rfl⟩
def xal : AC := (.seq (.region [zo (.assign (.const (Value.bool false))) 2]) (.seq (.seq (.region [zo (.move (zt 0)) 4, zo (.call (zc (.builtin .len) #[zt 4] #[9])) 5, zo (.binOp .lss 3 (zt 5) (zi (1)) 3) 6, zo (.move (zt 6)) 7, ⟨.move (zt 0), some 8, (some (7, false))⟩, ⟨.call (zc (.builtin .len) #[zt 8] #[9]), some 9, (some (7, false))⟩, ⟨.binOp .gtr 3 (zt 9) (zi (12)) 3, some 10, (some (7, false))⟩, zo (.pick (zt 7) (.const (Value.bool true)) (zt 10)) 11, zo (.move (zt 11)) 12, ⟨.move (zt 0), some 13, (some (12, false))⟩, ⟨.binOp .eql 9 (zt 13) (.const (Value.string (ByteArray.mk #[46]))) 9, some 14, (some (12, false))⟩, zo (.pick (zt 12) (.const (Value.bool true)) (zt 14)) 15, zo (.move (zt 15)) 16, ⟨.move (zt 0), some 17, (some (16, false))⟩, ⟨.binOp .eql 9 (zt 17) (.const (Value.string (ByteArray.mk #[46, 46]))) 9, some 18, (some (16, false))⟩, zo (.pick (zt 16) (.const (Value.bool true)) (zt 18)) 19]) (.cond (zt 19) (.seq (.region [zo (.assign (.const (Value.bool false))) 2]) .ret) .skip)) (.seq (.seq (.region [zo (.assign (zi (0))) 3]) (.block 0 (.loop (.seq (.seq (.region [zo (.move (zt 3)) 20, zo (.move (zt 0)) 21, zo (.call (zc (.builtin .len) #[zt 21] #[9])) 22, zo (.binOp .lss 3 (zt 20) (zt 22) 3) 23]) (.cond (zt 23) .skip (.exit 0))) (.seq (.block 1 (.seq (.region [zo (.move (zt 0)) 26, zo (.move (zt 3)) 27, zo (.index 9 (zt 26) (zt 27)) 28, zo (.call (zc (.value (.func 96)) #[zt 28] #[5])) 29, zo (.unOp .not 4 (zt 29)) 30]) (.cond (zt 30) (.seq (.region [zo (.assign (.const (Value.bool false))) 2]) .ret) .skip))) (.region [zo (.move (zt 3)) 24, zo (.binOp .add 3 (zt 24) (zi (1)) 3) 25, zo (.assign (zt 25)) 3])))))) (.seq (.region [zo (.assign (.const (Value.bool true))) 2]) .ret))))
theorem x3q : FnC Tryd.prog 88 31 [.tmp 2] xal := ⟨by kernel_rfl, Tryd.f88, _, Tryd.func88, rfl, rfl, rfl, by kernel_rfl⟩
def xzc : AC := (.seq (.region [zo (.alloc 44) 4]) (.seq (.seq (.region [zo (.move (zt 1)) 5, zo (.binOp .lss 3 (zt 5) (zi (1)) 3) 6, zo (.move (zt 6)) 7, ⟨.move (zt 1), some 8, (some (7, false))⟩, ⟨.move (zt 0), some 9, (some (7, false))⟩, ⟨.nilCheck (zt 9), some 10, (some (7, false))⟩, ⟨.fieldAddr 150 (zt 10) 0, some 11, (some (7, false))⟩, ⟨.fieldAddr 34 (zt 11) 0, some 12, (some (7, false))⟩, ⟨.load 32 (zt 12), some 13, (some (7, false))⟩, ⟨.call (zc (.builtin .len) #[zt 13] #[32]), some 14, (some (7, false))⟩, ⟨.binOp .gtr 3 (zt 8) (zt 14) 3, some 15, (some (7, false))⟩, zo (.pick (zt 7) (.const (Value.bool true)) (zt 15)) 16]) (.cond (zt 16) (.seq (.region [zo (.build 44 #[]) 17, ⟨.store 44 (zt 4) (zt 17), none, none⟩]) .ret) .skip)) (.seq (.region [zo (.move (zt 0)) 18, zo (.nilCheck (zt 18)) 19, zo (.fieldAddr 150 (zt 19) 0) 20, zo (.fieldAddr 34 (zt 20) 0) 21, zo (.load 32 (zt 21)) 22, zo (.move (zt 1)) 23, zo (.binOp .sub 3 (zt 23) (zi (1)) 3) 24, zo (.indexAddr 32 (zt 22) (zt 24)) 25, zo (.load 44 (zt 25)) 26, ⟨.store 44 (zt 4) (zt 26), none, none⟩]) .ret)))
theorem xhd : FnC Tryd.prog 89 27 [.cell 4 44] xzc := ⟨by kernel_rfl, Tryd.f89, _, Tryd.func89, rfl, rfl, rfl, by kernel_rfl⟩
def xge : AC := (.seq (.region [zo (.box 153 (zt 1)) 3, zo (.assign (.const (Value.bool false))) 4]) (.seq (.seq (.draw [zo (.move (zt 0)) 5, zo (.nilCheck (zt 5)) 6, zo (.fieldAddr 150 (zt 6) 2) 7, zo (.load 146 (zt 7)) 8, zo (.fieldAddr 153 (zt 3) 0) 9, zo (.load 3 (zt 9)) 10, zo (.lookup 146 (zt 8) (zt 10) false) 11, zo (.binOp .gtr 3 (zt 11) (zi (0)) 3) 12] [0, 1, 3, 7, 0, 16, 63, 127] [false, false, false, true, false, true, true, false]) (.cond (zt 12) (.seq (.region [zo (.assign (.const (Value.bool false))) 4]) .ret) .skip)) (.seq (.draw [zo (.move (zt 0)) 13, zo (.nilCheck (zt 13)) 14, zo (.fieldAddr 150 (zt 14) 2) 15, zo (.load 146 (zt 15)) 16, zo (.fieldAddr 153 (zt 3) 0) 17, zo (.load 3 (zt 17)) 18, zo (.lookup 146 (zt 16) (zt 18) false) 19, zo (.binOp .add 3 (zt 19) (zi (1)) 3) 20, ⟨.mapUpdate 146 (zt 16) (zt 18) (zt 20), none, none⟩] [0, 1, 3, 7, 0, 16, 63, 127, 255] [false, false, false, true, false, true, true, false, true]) (.seq (.draw [zo (.move (zt 0)) 21, zo (.move (zt 0)) 22, zo (.nilCheck (zt 22)) 23, zo (.fieldAddr 150 (zt 23) 1) 24, zo (.load 147 (zt 24)) 25, zo (.load 153 (zt 3)) 26, zo (.buildSlice 147 1 #[(0, zt 26)]) 27, zo (.call (zc (.builtin .append) #[zt 25, zt 27] #[147, 147])) 28, zo (.nilCheck (zt 21)) 29, zo (.fieldAddr 150 (zt 29) 1) 30, ⟨.store 147 (zt 30) (zt 28), none, none⟩] [0, 0, 2, 6, 14, 0, 32, 126, 255, 511, 1023] [false, false, false, false, true, true, false, true, false, false, true]) (.seq (.region [zo (.assign (.const (Value.bool true))) 4]) .ret)))))
theorem x4f : FnC Tryd.prog 90 31 [.tmp 4] xge := ⟨by kernel_rfl, Tryd.f90, _, Tryd.func90, rfl, rfl, rfl, by kernel_rfl⟩
def x0f : AC := (.seq (.region [zo (.move (zt 0)) 7, zo (.nilCheck (zt 7)) 8, zo (.fieldAddr 150 (zt 8) 1) 9, zo (.load 147 (zt 9)) 10, zo (.move (zt 1)) 11, zo (.indexAddr 147 (zt 10) (zt 11)) 12, zo (.fieldAddr 153 (zt 12) 0) 13, zo (.load 3 (zt 13)) 14, zo (.assign (zt 14)) 4]) (.seq (.region [zo (.move (zt 0)) 15, zo (.move (zt 4)) 16, zo (.call (zc (.value (.func 89)) #[zt 15, zt 16] #[129, 3])) 17, zo (.field 44 (zt 17) 5) 18, zo (.call (zc (.builtin .len) #[zt 18] #[40])) 19, zo (.move (zi (0))) 20]) (.block 0 (.loop (.seq (.region [zo (.binOp .lss 3 (zt 20) (zt 19) 3) 21]) (.seq (.cond (zt 21) .skip (.exit 0)) (.seq (.block 1 (.seq (.region [zo (.indexAddr 40 (zt 18) (zt 20)) 22, zo (.load 51 (zt 22)) 23, zo (.alloc 51) 6, ⟨.store 51 (zt 6) (zt 23), none, none⟩]) (.seq (.region [zo (.move (zt 0)) 24, zo (.fieldAddr 51 (zt 6) 1) 25, zo (.load 3 (zt 25)) 26, zo (.call (zc (.value (.func 89)) #[zt 24, zt 26] #[129, 3])) 27, zo (.field 44 (zt 27) 0) 28, zo (.binOp .eql 3 (zt 28) (zi (1)) 3) 29, zo (.move (zt 29)) 30, ⟨.move (zt 0), some 31, (some (30, true))⟩, ⟨.fieldAddr 51 (zt 6) 1, some 32, (some (30, true))⟩, ⟨.load 3 (zt 32), some 33, (some (30, true))⟩, ⟨.move (zt 1), some 34, (some (30, true))⟩, ⟨.fieldAddr 51 (zt 6) 2, some 35, (some (30, true))⟩, ⟨.load 9 (zt 35), some 36, (some (30, true))⟩, ⟨.build 153 #[(0, zt 33), (1, zt 34), (2, zt 36)], some 37, (some (30, true))⟩, ⟨.call (zc (.value (.func 90)) #[zt 31, zt 37] #[129, 153]), some 38, (some (30, true))⟩, ⟨.unOp .not 4 (zt 38), some 39, (some (30, true))⟩, zo (.pick (zt 30) (zt 39) (.const (Value.bool false))) 40]) (.cond (zt 40) (.draw [zo (.move (zt 0)) 41, zo (.move (zt 0)) 42, zo (.nilCheck (zt 42)) 43, zo (.fieldAddr 150 (zt 43) 3) 44, zo (.load 148 (zt 44)) 45, zo (.move (zt 4)) 46, zo (.fieldAddr 51 (zt 6) 0) 47, zo (.load 3 (zt 47)) 48, zo (.build 162 #[(0, zt 46), (1, zt 48)]) 49, zo (.buildSlice 148 1 #[(0, zt 49)]) 50, zo (.call (zc (.builtin .append) #[zt 45, zt 50] #[148, 148])) 51, zo (.nilCheck (zt 41)) 52, zo (.fieldAddr 150 (zt 52) 3) 53, ⟨.store 148 (zt 53) (zt 51), none, none⟩] [0, 0, 2, 6, 14, 0, 0, 64, 224, 480, 1022, 2047, 4095, 8191] [false, false, false, false, true, false, false, true, false, false, true, false, false, true]) .skip)))) (.region [zo (.binOp .add 3 (zt 20) (zi (1)) 3) 54, zo (.move (zt 54)) 20]))))))))
theorem xrh : FnC Tryd.prog 91 55 [] x0f := ⟨by kernel_rfl, Tryd.f91, _, Tryd.func91, rfl, rfl, rfl, by kernel_rfl⟩
def x6h : AC := (.seq (.region [zo (.box 129 (zt 0)) 1, zo (.assign (.const Value.nilFunc)) 2]) (.seq (.region [zo (.makeFunc (.func 97) #[] #[zt 1]) 3, zo (.assign (zt 3)) 2]) .ret))
theorem xul : FnC Tryd.prog 92 4 [.tmp 2] x6h := ⟨by kernel_rfl, Tryd.f92, _, Tryd.func92, rfl, rfl, rfl, by kernel_rfl⟩
def xhk : AC := (.seq (.region [zo (.assign (.const (Value.bool false))) 2]) (.seq (.region [zo (.move (zt 0)) 3, zo (.binOp .geq 5 (zt 3) (.const (Value.int .u8 97)) 5) 4, zo (.move (zt 4)) 5, ⟨.move (zt 0), some 6, (some (5, true))⟩, ⟨.binOp .leq 5 (zt 6) (.const (Value.int .u8 122)) 5, some 7, (some (5, true))⟩, zo (.pick (zt 5) (zt 7) (.const (Value.bool false))) 8, zo (.move (zt 8)) 9, ⟨.move (zt 0), some 10, (some (9, false))⟩, ⟨.binOp .geq 5 (zt 10) (.const (Value.int .u8 48)) 5, some 11, (some (9, false))⟩, ⟨.move (zt 11), some 12, (some (9, false))⟩, ⟨.move (zt 0), some 13, (some (12, true))⟩, ⟨.binOp .leq 5 (zt 13) (.const (Value.int .u8 57)) 5, some 14, (some (12, true))⟩, ⟨.pick (zt 12) (zt 14) (.const (Value.bool false)), some 15, (some (9, false))⟩, zo (.pick (zt 9) (.const (Value.bool true)) (zt 15)) 16, zo (.move (zt 16)) 17, ⟨.move (zt 0), some 18, (some (17, false))⟩, ⟨.binOp .eql 5 (zt 18) (.const (Value.int .u8 46)) 5, some 19, (some (17, false))⟩, zo (.pick (zt 17) (.const (Value.bool true)) (zt 19)) 20, zo (.move (zt 20)) 21, ⟨.move (zt 0), some 22, (some (21, false))⟩, ⟨.binOp .eql 5 (zt 22) (.const (Value.int .u8 95)) 5, some 23, (some (21, false))⟩, zo (.pick (zt 21) (.const (Value.bool true)) (zt 23)) 24, zo (.move (zt 24)) 25, ⟨.move (zt 0), some 26, (some (25, false))⟩, ⟨.binOp .eql 5 (zt 26) (.const (Value.int .u8 45)) 5, some 27, (some (25, false))⟩, zo (.pick (zt 25) (.const (Value.bool true)) (zt 27)) 28, zo (.assign (zt 28)) 2]) .ret))
theorem xcp : FnC Tryd.prog 96 29 [.tmp 2] xhk := ⟨by kernel_rfl, Tryd.f96, _, Tryd.func96, rfl, rfl, rfl, by kernel_rfl⟩
def x7e : AC := (.scope (.seq (.label 0) (.seq (.region [zo (.load 129 (zt 1)) 7, zo (.nilCheck (zt 7)) 8, zo (.fieldAddr 150 (zt 8) 1) 9, zo (.load 147 (zt 9)) 10, zo (.call (zc (.builtin .len) #[zt 10] #[147])) 11, zo (.move (zi (0))) 12]) (.block 0 (.loop (.seq (.region [zo (.binOp .lss 3 (zt 12) (zt 11) 3) 13]) (.seq (.cond (zt 13) .skip (.exit 0)) (.seq (.block 1 (.seq (.region [zo (.indexAddr 147 (zt 10) (zt 12)) 14, zo (.load 153 (zt 14)) 15, zo (.alloc 153) 4, ⟨.store 153 (zt 4) (zt 15), none, none⟩]) (.seq (.region [zo (.load 129 (zt 1)) 16, zo (.fieldAddr 153 (zt 4) 0) 17, zo (.load 3 (zt 17)) 18, zo (.call (zc (.value (.func 89)) #[zt 16, zt 18] #[129, 3])) 19, zo (.field 44 (zt 19) 5) 20, zo (.call (zc (.builtin .len) #[zt 20] #[40])) 21, zo (.move (zi (0))) 22]) (.block 2 (.loop (.seq (.region [zo (.binOp .lss 3 (zt 22) (zt 21) 3) 23]) (.seq (.cond (zt 23) .skip (.exit 2)) (.seq (.block 3 (.seq (.region [zo (.indexAddr 40 (zt 20) (zt 22)) 24, zo (.load 51 (zt 24)) 25, zo (.alloc 51) 6, ⟨.store 51 (zt 6) (zt 25), none, none⟩]) (.seq (.region [zo (.move (zt 0)) 26, zo (.load 51 (zt 6)) 27, zo (.call (zc (.value (zt 26)) #[zt 27] #[51])) 28, zo (.unOp .not 4 (zt 28)) 29]) (.cond (zt 29) (.exit 0) .skip)))) (.region [zo (.binOp .add 3 (zt 22) (zi (1)) 3) 30, zo (.move (zt 30)) 22]))))))))) (.region [zo (.binOp .add 3 (zt 12) (zi (1)) 3) 31, zo (.move (zt 31)) 12])))))))))
theorem xjk : FnC Tryd.prog 97 32 [] x7e := ⟨by kernel_rfl, Tryd.f97, _, Tryd.func97, rfl, rfl, rfl, by kernel_rfl⟩
end Go.Proofs.YtefdlpandfhcgaaDoor.AL

/- Models of functions, and that the functions are as their models: written by gen.py. -/
set_option linter.all false
set_option maxRecDepth 100000
namespace Go.Proofs.YtefdlpandfhcgaaDoor.AL
open Go Go.Proofs
def xfb (a0 : Origin) : (ByteArray × Int) → Option (St (ByteArray × Int) ((ByteArray) ⊕ (ByteArray × Bool)))
 | (v6, v7) => if v7 < 3 then if v7 = 0 then if a0.layer < 1 then some (.out (.inr (xeb, false)))
 else if 15 < a0.layer then some (.out (.inr (xeb, false)))
 else (xyb a0.layer 16).bind fun v22 => (xcc (ByteArray.mk #[48]) (wr (1 - (v22.size : Int)))).bind fun v24 => (ck (v24.size + v22.size ≤ 9223372036854775807)).bind fun _ => (ck (v6.size + (v24 ++ v22).size ≤ 9223372036854775807)).bind fun _ => some (.nx ((v6 ++ (v24 ++ v22)), (wr (v7 + 1))))
 else if v7 = 1 then if a0.ino < 0 then some (.out (.inr (xeb, false)))
 else if 65535 < a0.ino then some (.out (.inr (xeb, false)))
 else (xyb a0.ino 16).bind fun v40 => (xcc (ByteArray.mk #[48]) (wr (4 - (v40.size : Int)))).bind fun v42 => (ck (v42.size + v40.size ≤ 9223372036854775807)).bind fun _ => (ck (v6.size + (v42 ++ v40).size ≤ 9223372036854775807)).bind fun _ => some (.nx ((v6 ++ (v42 ++ v40)), (wr (v7 + 1))))
 else (ck (v7 = 2)).bind fun _ => if a0.gen < 0 then some (.out (.inr (xeb, false)))
 else if 268435455 < a0.gen then some (.out (.inr (xeb, false)))
 else (xyb a0.gen 16).bind fun v58 => (xcc (ByteArray.mk #[48]) (wr (7 - (v58.size : Int)))).bind fun v60 => (ck (v60.size + v58.size ≤ 9223372036854775807)).bind fun _ => (ck (v6.size + (v60 ++ v58).size ≤ 9223372036854775807)).bind fun _ => some (.nx ((v6 ++ (v60 ++ v58)), (wr (v7 + 1))))
 else some (.out (.inl v6))
def xhf (a0 : Origin) : Option (ByteArray × Bool) := (iter (xfb a0) big (xeb, 0)).bind fun o => (match o with
 | (.inl v9) => some (v9, true)
 | (.inr r) => some r)
def xu := aI (aI (aI (@EV) (@R3)) (aI (@R9) (@R23))) (aI (aI (@R57) (@R58)) (aI (@DOrigin) (aI (@x4t) (@xom))))
set_option maxHeartbeats 2000000 in
theorem x9q (a0 : Origin) (r : ByteArray × Bool) (hm0 : xhf a0 = some r) : Ok Tryd.prog 7 [xo a0] (.tup [str r.1, bool r.2]) := by
 unfold xhf at hm0
 refine okG xsq ?_
 unfold xfl
 simp only [xu, ↓EVd, isCall, sevalprocAttr]
 refine xue (acallF xlj (by simp) ?_) rfl
 unfold xmh
 have e1 : (.agg [int a0.layer, int 1, int 1, int 15] : AV) = xsb (⟨a0.layer, 1, 1, 15⟩ : Ar4_Int) := _root_.id rfl
 have e2 : (.agg [int a0.ino, int 4, int 0, int 65535] : AV) = xsb (⟨a0.ino, 4, 0, 65535⟩ : Ar4_Int) := _root_.id rfl
 have e3 : (.agg [int a0.gen, int 7, int 0, int 268435455] : AV) = xsb (⟨a0.gen, 7, 0, 268435455⟩ : Ar4_Int) := _root_.id rfl
 have e4 : (.agg [int a0.layer, int 1, int 1, int 15, int a0.ino, int 4, int 0, int 65535, int a0.gen, int 7, int 0, int 268435455] : AV) = xf (⟨(⟨a0.layer, 1, 1, 15⟩ : Ar4_Int), (⟨a0.ino, 4, 0, 65535⟩ : Ar4_Int), (⟨a0.gen, 7, 0, 268435455⟩ : Ar4_Int)⟩ : Ar3_Ar4_Int) := _root_.id rfl
 obtain ⟨o0, ho0, hm0⟩ := bsE hm0
 simp only [e1, e2, e3, e4, xu, ↓EVd, isCall, sevalprocAttr]
 refine cwp_cx 0 (fun s => ∃ v9 : ByteArray, (s.T 4 = str v9) ∧ (.inl v9) = o0) ?_ fun J0_0 hJ0_0 => ?_
 · rintro T0 H0 x8 ⟨v9, kk0_0, rfl⟩
   dsimp only [Lq, Nq] at kk0_0
   try dsimp only at hm0
   obtain rfl := Option.some.inj hm0
   simp only [kk0_0, e1, e2, e3, e4, xu, ↓EVd, isCall, sevalprocAttr]
   all_goals first | done | rfl | exact xn (by simp only [CLO]) | exact xgb (by simp only [CLO]) (Sub.tup (Subs.cons (Sub.refl _) (Subs.cons (Sub.refl _) (Subs.nil))))
 refine cwp_lp ho0 (fun (v6, v7) s => s.T 4 = str v6 ∧ s.T 9 = xf (⟨(⟨a0.layer, 1, 1, 15⟩ : Ar4_Int), (⟨a0.ino, 4, 0, 65535⟩ : Ar4_Int), (⟨a0.gen, 7, 0, 268435455⟩ : Ar4_Int)⟩ : Ar3_Ar4_Int) ∧ s.T 10 = int v7) ?_ ?_
 · refine TI.here ⟨?_, ?_, ?_⟩
   all_goals try simp only [e1, e2, e3, e4, xu, ↓EVd, isCall, sevalprocAttr]
   all_goals first | omega | exact lq (by omega) | exact nq (by omega) | rfl | (congr 1; omega)
 rintro I0 ⟨v6, v7⟩ T0 H0 x5 st0 kk0 hm1 hI0 hO0
 dsimp only [Lq, Nq] at kk0
 simp only [xfb] at hm1
 rcases iteE hm1 with ⟨e11, hm1⟩ | ⟨e11, hm1⟩
 · rcases iteE hm1 with ⟨e13, hm1⟩ | ⟨e13, hm1⟩
   · have e14 : xg Tryd.prog 58 (xf (⟨(⟨a0.layer, 1, 1, 15⟩ : Ar4_Int), (⟨a0.ino, 4, 0, 65535⟩ : Ar4_Int), (⟨a0.gen, 7, 0, 268435455⟩ : Ar4_Int)⟩ : Ar3_Ar4_Int)) (int v7) = some (.agg [int a0.layer, int 1, int 1, int 15]) := (show xg Tryd.prog 58 (xf (⟨(⟨a0.layer, 1, 1, 15⟩ : Ar4_Int), (⟨a0.ino, 4, 0, 65535⟩ : Ar4_Int), (⟨a0.gen, 7, 0, 268435455⟩ : Ar4_Int)⟩ : Ar3_Ar4_Int)) (int v7) = some (.agg [int a0.layer, int 1, int 1, int 15]) from idxE xkb xvb 0 (by first | rfl | (have h := of_eq_true e13; omega) | (have h := e13; omega)) (by decide) rfl)
     have e15 : xg Tryd.prog 58 (.agg [int a0.layer, int 1, int 1, int 15, int a0.ino, int 4, int 0, int 65535, int a0.gen, int 7, int 0, int 268435455]) (int v7) = some (.agg [int a0.layer, int 1, int 1, int 15]) := (show xg Tryd.prog 58 (.agg [int a0.layer, int 1, int 1, int 15, int a0.ino, int 4, int 0, int 65535, int a0.gen, int 7, int 0, int 268435455]) (int v7) = some (.agg [int a0.layer, int 1, int 1, int 15]) from idxE xkb xvb 0 (by first | rfl | (have h := of_eq_true e13; omega) | (have h := e13; omega)) (by decide) rfl)
     have e16 : xg Tryd.prog 58 (xf (⟨(⟨a0.layer, 1, 1, 15⟩ : Ar4_Int), (⟨a0.ino, 4, 0, 65535⟩ : Ar4_Int), (⟨a0.gen, 7, 0, 268435455⟩ : Ar4_Int)⟩ : Ar3_Ar4_Int)) (int 0) = some (.agg [int a0.layer, int 1, int 1, int 15]) := (show xg Tryd.prog 58 (xf (⟨(⟨a0.layer, 1, 1, 15⟩ : Ar4_Int), (⟨a0.ino, 4, 0, 65535⟩ : Ar4_Int), (⟨a0.gen, 7, 0, 268435455⟩ : Ar4_Int)⟩ : Ar3_Ar4_Int)) (int 0) = some (.agg [int a0.layer, int 1, int 1, int 15]) from idxE xkb xvb 0 (by first | rfl | (have h := of_eq_true e13; omega) | (have h := e13; omega)) (by decide) rfl)
     have e17 : xg Tryd.prog 58 (.agg [int a0.layer, int 1, int 1, int 15, int a0.ino, int 4, int 0, int 65535, int a0.gen, int 7, int 0, int 268435455]) (int 0) = some (.agg [int a0.layer, int 1, int 1, int 15]) := (show xg Tryd.prog 58 (.agg [int a0.layer, int 1, int 1, int 15, int a0.ino, int 4, int 0, int 65535, int a0.gen, int 7, int 0, int 268435455]) (int 0) = some (.agg [int a0.layer, int 1, int 1, int 15]) from idxE xkb xvb 0 (by first | rfl | (have h := of_eq_true e13; omega) | (have h := e13; omega)) (by decide) rfl)
     have g66 := And.intro (And.intro (And.intro ((e1)) ((e2))) (And.intro ((e3)) (And.intro ((e4)) ((e11))))) (And.intro (And.intro ((e13)) ((e14))) (And.intro ((e15)) (And.intro ((e16)) ((e17)))))
     rcases iteE hm1 with ⟨e19, hm1⟩ | ⟨e19, hm1⟩
     · obtain rfl := Option.some.inj hm1
       obtain rfl := hO0 _ rfl
       try dsimp only at hm0
       obtain rfl := Option.some.inj hm0
       simp only [kk0, g66, e19, xu, ↓EVd, isCall, sevalprocAttr]
       all_goals first | done | rfl | exact xn (by simp only [CLO]) | exact xgb (by simp only [CLO]) (Sub.tup (Subs.cons (Sub.refl _) (Subs.cons (Sub.refl _) (Subs.nil))))
     rcases iteE hm1 with ⟨e21, hm1⟩ | ⟨e21, hm1⟩
     · obtain rfl := Option.some.inj hm1
       obtain rfl := hO0 _ rfl
       try dsimp only at hm0
       obtain rfl := Option.some.inj hm0
       simp only [kk0, g66, e19, e21, xu, ↓EVd, isCall, sevalprocAttr]
       all_goals first | done | rfl | exact xn (by simp only [CLO]) | exact xgb (by simp only [CLO]) (Sub.tup (Subs.cons (Sub.refl _) (Subs.cons (Sub.refl _) (Subs.nil))))
     obtain ⟨v22, h23, hm1⟩ := bsE hm1
     simp only [kk0, g66, e19, e21, xu, ↓EVd, isCall, sevalprocAttr]
     refine qc (x6e _ _ _ h23) rfl ?_
     obtain ⟨v24, h25, hm1⟩ := bsE hm1
     simp only [kk0, g66, e19, e21, xu, ↓EVd, isCall, sevalprocAttr]
     refine qc (xlg _ _ _ h25) rfl ?_
     obtain ⟨e27, hm1⟩ := ckE hm1
     obtain ⟨e29, hm1⟩ := ckE hm1
     obtain rfl := Option.some.inj hm1
     simp only [kk0, g66, e19, e21, e27, e29, xu, ↓EVd, isCall, sevalprocAttr]
     refine TI.here (hI0 _ rfl _ ⟨?_, ?_, ?_⟩)
     all_goals try simp only [kk0, g66, e19, e21, e27, e29, xu, ↓EVd, isCall, sevalprocAttr]
     all_goals first | omega | exact lq (by omega) | exact nq (by omega) | rfl | (congr 1; omega)
   rcases iteE hm1 with ⟨e31, hm1⟩ | ⟨e31, hm1⟩
   · have e32 : xg Tryd.prog 58 (xf (⟨(⟨a0.layer, 1, 1, 15⟩ : Ar4_Int), (⟨a0.ino, 4, 0, 65535⟩ : Ar4_Int), (⟨a0.gen, 7, 0, 268435455⟩ : Ar4_Int)⟩ : Ar3_Ar4_Int)) (int v7) = some (.agg [int a0.ino, int 4, int 0, int 65535]) := (show xg Tryd.prog 58 (xf (⟨(⟨a0.layer, 1, 1, 15⟩ : Ar4_Int), (⟨a0.ino, 4, 0, 65535⟩ : Ar4_Int), (⟨a0.gen, 7, 0, 268435455⟩ : Ar4_Int)⟩ : Ar3_Ar4_Int)) (int v7) = some (.agg [int a0.ino, int 4, int 0, int 65535]) from idxE xkb xvb 1 (by first | rfl | (have h := of_eq_true e31; omega) | (have h := e31; omega)) (by decide) rfl)
     have e33 : xg Tryd.prog 58 (.agg [int a0.layer, int 1, int 1, int 15, int a0.ino, int 4, int 0, int 65535, int a0.gen, int 7, int 0, int 268435455]) (int v7) = some (.agg [int a0.ino, int 4, int 0, int 65535]) := (show xg Tryd.prog 58 (.agg [int a0.layer, int 1, int 1, int 15, int a0.ino, int 4, int 0, int 65535, int a0.gen, int 7, int 0, int 268435455]) (int v7) = some (.agg [int a0.ino, int 4, int 0, int 65535]) from idxE xkb xvb 1 (by first | rfl | (have h := of_eq_true e31; omega) | (have h := e31; omega)) (by decide) rfl)
     have e34 : xg Tryd.prog 58 (xf (⟨(⟨a0.layer, 1, 1, 15⟩ : Ar4_Int), (⟨a0.ino, 4, 0, 65535⟩ : Ar4_Int), (⟨a0.gen, 7, 0, 268435455⟩ : Ar4_Int)⟩ : Ar3_Ar4_Int)) (int 1) = some (.agg [int a0.ino, int 4, int 0, int 65535]) := (show xg Tryd.prog 58 (xf (⟨(⟨a0.layer, 1, 1, 15⟩ : Ar4_Int), (⟨a0.ino, 4, 0, 65535⟩ : Ar4_Int), (⟨a0.gen, 7, 0, 268435455⟩ : Ar4_Int)⟩ : Ar3_Ar4_Int)) (int 1) = some (.agg [int a0.ino, int 4, int 0, int 65535]) from idxE xkb xvb 1 (by first | rfl | (have h := of_eq_true e31; omega) | (have h := e31; omega)) (by decide) rfl)
     have e35 : xg Tryd.prog 58 (.agg [int a0.layer, int 1, int 1, int 15, int a0.ino, int 4, int 0, int 65535, int a0.gen, int 7, int 0, int 268435455]) (int 1) = some (.agg [int a0.ino, int 4, int 0, int 65535]) := (show xg Tryd.prog 58 (.agg [int a0.layer, int 1, int 1, int 15, int a0.ino, int 4, int 0, int 65535, int a0.gen, int 7, int 0, int 268435455]) (int 1) = some (.agg [int a0.ino, int 4, int 0, int 65535]) from idxE xkb xvb 1 (by first | rfl | (have h := of_eq_true e31; omega) | (have h := e31; omega)) (by decide) rfl)
     have g67 := And.intro (And.intro (And.intro ((e1)) ((e2))) (And.intro ((e3)) (And.intro ((e4)) ((e11))))) (And.intro (And.intro ((e13)) (And.intro ((e31)) ((e32)))) (And.intro ((e33)) (And.intro ((e34)) ((e35)))))
     rcases iteE hm1 with ⟨e37, hm1⟩ | ⟨e37, hm1⟩
     · obtain rfl := Option.some.inj hm1
       obtain rfl := hO0 _ rfl
       try dsimp only at hm0
       obtain rfl := Option.some.inj hm0
       simp only [kk0, g67, e37, xu, ↓EVd, isCall, sevalprocAttr]
       all_goals first | done | rfl | exact xn (by simp only [CLO]) | exact xgb (by simp only [CLO]) (Sub.tup (Subs.cons (Sub.refl _) (Subs.cons (Sub.refl _) (Subs.nil))))
     rcases iteE hm1 with ⟨e39, hm1⟩ | ⟨e39, hm1⟩
     · obtain rfl := Option.some.inj hm1
       obtain rfl := hO0 _ rfl
       try dsimp only at hm0
       obtain rfl := Option.some.inj hm0
       simp only [kk0, g67, e37, e39, xu, ↓EVd, isCall, sevalprocAttr]
       all_goals first | done | rfl | exact xn (by simp only [CLO]) | exact xgb (by simp only [CLO]) (Sub.tup (Subs.cons (Sub.refl _) (Subs.cons (Sub.refl _) (Subs.nil))))
     obtain ⟨v40, h41, hm1⟩ := bsE hm1
     simp only [kk0, g67, e37, e39, xu, ↓EVd, isCall, sevalprocAttr]
     refine qc (x6e _ _ _ h41) rfl ?_
     obtain ⟨v42, h43, hm1⟩ := bsE hm1
     simp only [kk0, g67, e37, e39, xu, ↓EVd, isCall, sevalprocAttr]
     refine qc (xlg _ _ _ h43) rfl ?_
     obtain ⟨e45, hm1⟩ := ckE hm1
     obtain ⟨e47, hm1⟩ := ckE hm1
     obtain rfl := Option.some.inj hm1
     simp only [kk0, g67, e37, e39, e45, e47, xu, ↓EVd, isCall, sevalprocAttr]
     refine TI.here (hI0 _ rfl _ ⟨?_, ?_, ?_⟩)
     all_goals try simp only [kk0, g67, e37, e39, e45, e47, xu, ↓EVd, isCall, sevalprocAttr]
     all_goals first | omega | exact lq (by omega) | exact nq (by omega) | rfl | (congr 1; omega)
   obtain ⟨e49, hm1⟩ := ckE hm1
   have e50 : xg Tryd.prog 58 (xf (⟨(⟨a0.layer, 1, 1, 15⟩ : Ar4_Int), (⟨a0.ino, 4, 0, 65535⟩ : Ar4_Int), (⟨a0.gen, 7, 0, 268435455⟩ : Ar4_Int)⟩ : Ar3_Ar4_Int)) (int v7) = some (.agg [int a0.gen, int 7, int 0, int 268435455]) := (show xg Tryd.prog 58 (xf (⟨(⟨a0.layer, 1, 1, 15⟩ : Ar4_Int), (⟨a0.ino, 4, 0, 65535⟩ : Ar4_Int), (⟨a0.gen, 7, 0, 268435455⟩ : Ar4_Int)⟩ : Ar3_Ar4_Int)) (int v7) = some (.agg [int a0.gen, int 7, int 0, int 268435455]) from idxE xkb xvb 2 (by first | rfl | (have h := of_eq_true e49; omega) | (have h := e49; omega)) (by decide) rfl)
   have e51 : xg Tryd.prog 58 (.agg [int a0.layer, int 1, int 1, int 15, int a0.ino, int 4, int 0, int 65535, int a0.gen, int 7, int 0, int 268435455]) (int v7) = some (.agg [int a0.gen, int 7, int 0, int 268435455]) := (show xg Tryd.prog 58 (.agg [int a0.layer, int 1, int 1, int 15, int a0.ino, int 4, int 0, int 65535, int a0.gen, int 7, int 0, int 268435455]) (int v7) = some (.agg [int a0.gen, int 7, int 0, int 268435455]) from idxE xkb xvb 2 (by first | rfl | (have h := of_eq_true e49; omega) | (have h := e49; omega)) (by decide) rfl)
   have e52 : xg Tryd.prog 58 (xf (⟨(⟨a0.layer, 1, 1, 15⟩ : Ar4_Int), (⟨a0.ino, 4, 0, 65535⟩ : Ar4_Int), (⟨a0.gen, 7, 0, 268435455⟩ : Ar4_Int)⟩ : Ar3_Ar4_Int)) (int 2) = some (.agg [int a0.gen, int 7, int 0, int 268435455]) := (show xg Tryd.prog 58 (xf (⟨(⟨a0.layer, 1, 1, 15⟩ : Ar4_Int), (⟨a0.ino, 4, 0, 65535⟩ : Ar4_Int), (⟨a0.gen, 7, 0, 268435455⟩ : Ar4_Int)⟩ : Ar3_Ar4_Int)) (int 2) = some (.agg [int a0.gen, int 7, int 0, int 268435455]) from idxE xkb xvb 2 (by first | rfl | (have h := of_eq_true e49; omega) | (have h := e49; omega)) (by decide) rfl)
   have e53 : xg Tryd.prog 58 (.agg [int a0.layer, int 1, int 1, int 15, int a0.ino, int 4, int 0, int 65535, int a0.gen, int 7, int 0, int 268435455]) (int 2) = some (.agg [int a0.gen, int 7, int 0, int 268435455]) := (show xg Tryd.prog 58 (.agg [int a0.layer, int 1, int 1, int 15, int a0.ino, int 4, int 0, int 65535, int a0.gen, int 7, int 0, int 268435455]) (int 2) = some (.agg [int a0.gen, int 7, int 0, int 268435455]) from idxE xkb xvb 2 (by first | rfl | (have h := of_eq_true e49; omega) | (have h := e49; omega)) (by decide) rfl)
   have g68 := And.intro (And.intro (And.intro ((e1)) (And.intro ((e2)) ((e3)))) (And.intro ((e4)) (And.intro ((e11)) ((e13))))) (And.intro (And.intro ((e31)) (And.intro ((e49)) ((e50)))) (And.intro ((e51)) (And.intro ((e52)) ((e53)))))
   rcases iteE hm1 with ⟨e55, hm1⟩ | ⟨e55, hm1⟩
   · obtain rfl := Option.some.inj hm1
     obtain rfl := hO0 _ rfl
     try dsimp only at hm0
     obtain rfl := Option.some.inj hm0
     simp only [kk0, g68, e55, xu, ↓EVd, isCall, sevalprocAttr]
     all_goals first | done | rfl | exact xn (by simp only [CLO]) | exact xgb (by simp only [CLO]) (Sub.tup (Subs.cons (Sub.refl _) (Subs.cons (Sub.refl _) (Subs.nil))))
   rcases iteE hm1 with ⟨e57, hm1⟩ | ⟨e57, hm1⟩
   · obtain rfl := Option.some.inj hm1
     obtain rfl := hO0 _ rfl
     try dsimp only at hm0
     obtain rfl := Option.some.inj hm0
     simp only [kk0, g68, e55, e57, xu, ↓EVd, isCall, sevalprocAttr]
     all_goals first | done | rfl | exact xn (by simp only [CLO]) | exact xgb (by simp only [CLO]) (Sub.tup (Subs.cons (Sub.refl _) (Subs.cons (Sub.refl _) (Subs.nil))))
   obtain ⟨v58, h59, hm1⟩ := bsE hm1
   simp only [kk0, g68, e55, e57, xu, ↓EVd, isCall, sevalprocAttr]
   refine qc (x6e _ _ _ h59) rfl ?_
   obtain ⟨v60, h61, hm1⟩ := bsE hm1
   simp only [kk0, g68, e55, e57, xu, ↓EVd, isCall, sevalprocAttr]
   refine qc (xlg _ _ _ h61) rfl ?_
   obtain ⟨e63, hm1⟩ := ckE hm1
   obtain ⟨e65, hm1⟩ := ckE hm1
   obtain rfl := Option.some.inj hm1
   simp only [kk0, g68, e55, e57, e63, e65, xu, ↓EVd, isCall, sevalprocAttr]
   refine TI.here (hI0 _ rfl _ ⟨?_, ?_, ?_⟩)
   all_goals try simp only [kk0, g68, e55, e57, e63, e65, xu, ↓EVd, isCall, sevalprocAttr]
   all_goals first | omega | exact lq (by omega) | exact nq (by omega) | rfl | (congr 1; omega)
 obtain rfl := Option.some.inj hm1
 simp only [kk0, e1, e2, e3, e4, e11, xu, ↓EVd, isCall, sevalprocAttr]
 refine TI.here (hJ0_0 _ ⟨v6, ?_, hO0 _ rfl⟩)
 all_goals try simp only [kk0, e1, e2, e3, e4, e11, xu, ↓EVd, isCall, sevalprocAttr]
 all_goals first | omega | exact lq (by omega) | exact nq (by omega) | rfl | (congr 1; omega)
def x0c  : (ByteArray × Int × Ar3_Int) → Option (St (ByteArray × Int × Ar3_Int) ((Ar3_Int) ⊕ (Origin × Bool)))
 | (v7, v8, v9) => if v8 < 3 then if v8 = 0 then if (v7.size : Int) < 1 then some (.out (.inr ((⟨0, 0, 0⟩ : Origin), false)))
 else (strM v7 none (some 1)).bind fun v23 => (x8b v23 16 32).bind fun v26 => if v26.2 = true then some (.out (.inr ((⟨0, 0, 0⟩ : Origin), false)))
 else (strM v7 (some 1) none).bind fun v32 => some (.nx (v32, (wr (v8 + 1)), ({ v9 with c0 := IntKind.i64.wrap v26.1 } : Ar3_Int)))
 else if v8 = 1 then if (v7.size : Int) < 4 then some (.out (.inr ((⟨0, 0, 0⟩ : Origin), false)))
 else (strM v7 none (some 4)).bind fun v48 => (x8b v48 16 32).bind fun v51 => if v51.2 = true then some (.out (.inr ((⟨0, 0, 0⟩ : Origin), false)))
 else (strM v7 (some 4) none).bind fun v57 => some (.nx (v57, (wr (v8 + 1)), ({ v9 with c1 := IntKind.i64.wrap v51.1 } : Ar3_Int)))
 else (ck (v8 = 2)).bind fun _ => if (v7.size : Int) < 7 then some (.out (.inr ((⟨0, 0, 0⟩ : Origin), false)))
 else (strM v7 none (some 7)).bind fun v73 => (x8b v73 16 32).bind fun v76 => if v76.2 = true then some (.out (.inr ((⟨0, 0, 0⟩ : Origin), false)))
 else (strM v7 (some 7) none).bind fun v82 => (ck (v8 = 2)).bind fun _ => some (.nx (v82, (wr (v8 + 1)), ({ v9 with c2 := IntKind.i64.wrap v76.1 } : Ar3_Int)))
 else some (.out (.inl v9))
def x7c (a0 : ByteArray) : Option (Origin × Bool) := (iter (x0c) big (a0, 0, (⟨0, 0, 0⟩ : Ar3_Int))).bind fun o => (match o with
 | (.inl v11) => (xhf (⟨v11.c0, v11.c1, v11.c2⟩ : Origin)).bind fun v92 => if (!v92.2) = true then some ((⟨0, 0, 0⟩ : Origin), false)
 else if v92.1 = a0 then some ((⟨v11.c0, v11.c1, v11.c2⟩ : Origin), true)
 else some ((⟨0, 0, 0⟩ : Origin), false)
 | (.inr r) => some r)
def xp := aI (aI (aI (@EV) (aI (@R3) (@R9))) (aI (@R23) (aI (@R57) (@R58)))) (aI (aI (@R63) (aI (@DOrigin) (@x4t))) (aI (aI (@xom) (@xl1)) (aI (@DErr) (@mixed))))
set_option maxHeartbeats 2000000 in
theorem xoj (a0 : ByteArray) (r : Origin × Bool) (hm0 : x7c a0 = some r) : Ok Tryd.prog 9 [str a0] (.tup [xo r.1, bool r.2]) := by
 unfold x7c at hm0
 refine okG xcq ?_
 unfold xdk
 have e1 : (.agg [int 0, int 0, int 0] : AV) = xo (⟨0, 0, 0⟩ : Origin) := _root_.id rfl
 simp only [e1, xp, ↓EVd, isCall, sevalprocAttr]
 refine xue (acallF xlj (by simp) ?_) rfl
 unfold xmh
 have e2 : (.agg [int 0, int 1, int 1, int 15] : AV) = xsb (⟨0, 1, 1, 15⟩ : Ar4_Int) := _root_.id rfl
 have e3 : (.agg [int 0, int 4, int 0, int 65535] : AV) = xsb (⟨0, 4, 0, 65535⟩ : Ar4_Int) := _root_.id rfl
 have e4 : (.agg [int 0, int 7, int 0, int 268435455] : AV) = xsb (⟨0, 7, 0, 268435455⟩ : Ar4_Int) := _root_.id rfl
 have e5 : (.agg [int 0, int 1, int 1, int 15, int 0, int 4, int 0, int 65535, int 0, int 7, int 0, int 268435455] : AV) = xf (⟨(⟨0, 1, 1, 15⟩ : Ar4_Int), (⟨0, 4, 0, 65535⟩ : Ar4_Int), (⟨0, 7, 0, 268435455⟩ : Ar4_Int)⟩ : Ar3_Ar4_Int) := _root_.id rfl
 obtain ⟨o0, ho0, hm0⟩ := bsE hm0
 simp only [e1, e2, e3, e4, e5, xp, ↓EVd, isCall, sevalprocAttr]
 refine cwp_cx 0 (fun s => ∃ v11 : Ar3_Int, (s.T 0 = str a0 ∧ s.T 2 = .loc 0 3 0 0 ∧ s.T 4 = .loc 2 3 0 0 ∧ s.H 0 = some (.row 23 3 [.agg [int 0, int 0, int 0]]) ∧ s.H 2 = some (.row 63 3 [x4b v11]) ∧ Lq 0 s.nx ∧ Lq 2 s.nx) ∧ (.inl v11) = o0) ?_ fun J0_0 hJ0_0 => ?_
 · rintro T0 H0 x10 ⟨v11, kk0_0, rfl⟩
   dsimp only [Lq, Nq] at kk0_0
   try dsimp only at hm0
   have e91 : (.agg [int v11.c0, int v11.c1, int v11.c2] : AV) = xo (⟨v11.c0, v11.c1, v11.c2⟩ : Origin) := _root_.id rfl
   obtain ⟨v92, h93, hm0⟩ := bsE hm0
   simp only [kk0_0, e1, e2, e3, e4, e5, e91, xp, ↓EVd, isCall, sevalprocAttr]
   refine qc (x9q _ _ h93) rfl ?_
   rcases itbE hm0 with ⟨e95, hm0⟩ | ⟨e95, hm0⟩
   · have e96 : (.agg [int 0, int 0, int 0] : AV) = xo (⟨0, 0, 0⟩ : Origin) := _root_.id rfl
     obtain rfl := Option.some.inj hm0
     simp only [kk0_0, e1, e2, e3, e4, e5, e91, e95, e96, xp, ↓EVd, isCall, sevalprocAttr]
     all_goals first | done | rfl | exact xn (by simp only [CLO]) | exact xgb (by simp only [CLO]) (Sub.tup (Subs.cons (Sub.refl _) (Subs.cons (Sub.refl _) (Subs.nil))))
   rcases iteE hm0 with ⟨e98, hm0⟩ | ⟨e98, hm0⟩
   · obtain rfl := Option.some.inj hm0
     simp only [kk0_0, e1, e2, e3, e4, e5, e91, e95, e98, xp, ↓EVd, isCall, sevalprocAttr]
     all_goals first | done | rfl | exact xn (by simp only [CLO]) | exact xgb (by simp only [CLO]) (Sub.tup (Subs.cons (Sub.refl _) (Subs.cons (Sub.refl _) (Subs.nil))))
   have e99 : (.agg [int 0, int 0, int 0] : AV) = xo (⟨0, 0, 0⟩ : Origin) := _root_.id rfl
   obtain rfl := Option.some.inj hm0
   simp only [kk0_0, e1, e2, e3, e4, e5, e91, e95, e98, e99, xp, ↓EVd, isCall, sevalprocAttr]
   all_goals first | done | rfl | exact xn (by simp only [CLO]) | exact xgb (by simp only [CLO]) (Sub.tup (Subs.cons (Sub.refl _) (Subs.cons (Sub.refl _) (Subs.nil))))
 refine cwp_lp ho0 (fun (v7, v8, v9) s => s.T 0 = str a0 ∧ s.T 2 = .loc 0 3 0 0 ∧ s.T 4 = .loc 2 3 0 0 ∧ s.T 5 = str v7 ∧ s.T 15 = xf (⟨(⟨0, 1, 1, 15⟩ : Ar4_Int), (⟨0, 4, 0, 65535⟩ : Ar4_Int), (⟨0, 7, 0, 268435455⟩ : Ar4_Int)⟩ : Ar3_Ar4_Int) ∧ s.T 16 = int v8 ∧ s.H 0 = some (.row 23 3 [.agg [int 0, int 0, int 0]]) ∧ s.H 2 = some (.row 63 3 [x4b v9]) ∧ Lq 0 s.nx ∧ Lq 2 s.nx) ?_ ?_
 · refine TI.here ⟨?_, ?_, ?_, ?_, ?_, ?_, ?_, ?_, ?_, ?_⟩
   all_goals try simp only [e1, e2, e3, e4, e5, xp, ↓EVd, isCall, sevalprocAttr]
   all_goals first | omega | exact lq (by omega) | exact nq (by omega) | rfl | (congr 1; omega)
 rintro I0 ⟨v7, v8, v9⟩ T0 H0 x6 st0 kk0 hm1 hI0 hO0
 dsimp only [Lq, Nq] at kk0
 simp only [x0c] at hm1
 rcases iteE hm1 with ⟨e13, hm1⟩ | ⟨e13, hm1⟩
 · rcases iteE hm1 with ⟨e15, hm1⟩ | ⟨e15, hm1⟩
   · have e16 : xg Tryd.prog 58 (xf (⟨(⟨0, 1, 1, 15⟩ : Ar4_Int), (⟨0, 4, 0, 65535⟩ : Ar4_Int), (⟨0, 7, 0, 268435455⟩ : Ar4_Int)⟩ : Ar3_Ar4_Int)) (int v8) = some (.agg [int 0, int 1, int 1, int 15]) := (show xg Tryd.prog 58 (xf (⟨(⟨0, 1, 1, 15⟩ : Ar4_Int), (⟨0, 4, 0, 65535⟩ : Ar4_Int), (⟨0, 7, 0, 268435455⟩ : Ar4_Int)⟩ : Ar3_Ar4_Int)) (int v8) = some (.agg [int 0, int 1, int 1, int 15]) from idxE xkb xvb 0 (by first | rfl | (have h := of_eq_true e15; omega) | (have h := e15; omega)) (by decide) rfl)
     have e17 : xg Tryd.prog 58 (.agg [int 0, int 1, int 1, int 15, int 0, int 4, int 0, int 65535, int 0, int 7, int 0, int 268435455]) (int v8) = some (.agg [int 0, int 1, int 1, int 15]) := (show xg Tryd.prog 58 (.agg [int 0, int 1, int 1, int 15, int 0, int 4, int 0, int 65535, int 0, int 7, int 0, int 268435455]) (int v8) = some (.agg [int 0, int 1, int 1, int 15]) from idxE xkb xvb 0 (by first | rfl | (have h := of_eq_true e15; omega) | (have h := e15; omega)) (by decide) rfl)
     have e18 : xg Tryd.prog 58 (xf (⟨(⟨0, 1, 1, 15⟩ : Ar4_Int), (⟨0, 4, 0, 65535⟩ : Ar4_Int), (⟨0, 7, 0, 268435455⟩ : Ar4_Int)⟩ : Ar3_Ar4_Int)) (int 0) = some (.agg [int 0, int 1, int 1, int 15]) := (show xg Tryd.prog 58 (xf (⟨(⟨0, 1, 1, 15⟩ : Ar4_Int), (⟨0, 4, 0, 65535⟩ : Ar4_Int), (⟨0, 7, 0, 268435455⟩ : Ar4_Int)⟩ : Ar3_Ar4_Int)) (int 0) = some (.agg [int 0, int 1, int 1, int 15]) from idxE xkb xvb 0 (by first | rfl | (have h := of_eq_true e15; omega) | (have h := e15; omega)) (by decide) rfl)
     have e19 : xg Tryd.prog 58 (.agg [int 0, int 1, int 1, int 15, int 0, int 4, int 0, int 65535, int 0, int 7, int 0, int 268435455]) (int 0) = some (.agg [int 0, int 1, int 1, int 15]) := (show xg Tryd.prog 58 (.agg [int 0, int 1, int 1, int 15, int 0, int 4, int 0, int 65535, int 0, int 7, int 0, int 268435455]) (int 0) = some (.agg [int 0, int 1, int 1, int 15]) from idxE xkb xvb 0 (by first | rfl | (have h := of_eq_true e15; omega) | (have h := e15; omega)) (by decide) rfl)
     have g100 := And.intro (And.intro (And.intro ((e1)) ((e2))) (And.intro ((e3)) (And.intro ((e4)) ((e5))))) (And.intro (And.intro ((e13)) (And.intro ((e15)) ((e16)))) (And.intro ((e17)) (And.intro ((e18)) ((e19)))))
     rcases iteE hm1 with ⟨e21, hm1⟩ | ⟨e21, hm1⟩
     · have e22 : (.agg [int 0, int 0, int 0] : AV) = xo (⟨0, 0, 0⟩ : Origin) := _root_.id rfl
       obtain rfl := Option.some.inj hm1
       obtain rfl := hO0 _ rfl
       try dsimp only at hm0
       obtain rfl := Option.some.inj hm0
       simp only [kk0, g100, e21, e22, xp, ↓EVd, isCall, sevalprocAttr]
       all_goals first | done | rfl | exact xn (by simp only [CLO]) | exact xgb (by simp only [CLO]) (Sub.tup (Subs.cons (Sub.refl _) (Subs.cons (Sub.refl _) (Subs.nil))))
     obtain ⟨v23, h24, hm1⟩ := bsE hm1
     have e25 := show xrc Tryd.prog 9 (str v7) none (some (int 1)) none = some (str v23) from xwh (by kernel_rfl) h24
     obtain ⟨v26, h27, hm1⟩ := bsE hm1
     simp only [kk0, g100, e21, e25, xp, ↓EVd, isCall, sevalprocAttr]
     refine qc (x2e _ _ _ _ h27) rfl ?_
     rcases itbE hm1 with ⟨e29, hm1⟩ | ⟨e29, hm1⟩
     · have e30 : (.agg [int 0, int 0, int 0] : AV) = xo (⟨0, 0, 0⟩ : Origin) := _root_.id rfl
       obtain rfl := Option.some.inj hm1
       obtain rfl := hO0 _ rfl
       try dsimp only at hm0
       obtain rfl := Option.some.inj hm0
       simp only [kk0, g100, e21, e25, e29, e30, xp, ↓EVd, isCall, sevalprocAttr]
       all_goals first | done | rfl | exact xn (by simp only [CLO]) | exact xgb (by simp only [CLO]) (Sub.tup (Subs.cons (Sub.refl _) (Subs.cons (Sub.refl _) (Subs.nil))))
     simp only [kk0, g100, e21, e25, e29, xp, ↓EVd, isCall, sevalprocAttr]
     refine fineI [([], []), ([], []), ([], []), ([], []), ([], []), ([(x6 + 3)], []), ([], []), ([], []), ([], [2]), ([], [])] rfl (by simp only [MT, sevalprocAttr]; first | done | omega) ?_
     have e31 : convE Tryd.prog 64 3 (ik .u64 v26.1) = some (int (IntKind.i64.wrap v26.1), []) := xno _ (by kernel_rfl) (by kernel_rfl)
     obtain ⟨v32, h33, hm1⟩ := bsE hm1
     have e34 := show xrc Tryd.prog 9 (str v7) (some (int 1)) none none = some (str v32) from xwh (by kernel_rfl) h33
     have e35 : (0 ≤ v8) = True := eq_true (by first | (have h := of_eq_true e15; omega) | (have h := e15; omega))
     have e36 : (v8 < ((3 : Nat) : Int)) = True := eq_true (by first | (have h := of_eq_true e15; omega) | (have h := e15; omega))
     have e37 : (v8 < (3 : Int)) = True := eq_true (by first | (have h := of_eq_true e15; omega) | (have h := e15; omega))
     have e38 : (v8).toNat = 0 := (by first | (have h := of_eq_true e15; omega) | (have h := e15; omega))
     obtain rfl := Option.some.inj hm1
     simp only [kk0, g100, e21, e25, e29, e31, e34, e35, e36, e37, e38, xp, ↓EVd, isCall, sevalprocAttr]
     refine TI.here (hI0 _ rfl _ ⟨?_, ?_, ?_, ?_, ?_, ?_, ?_, ?_, ?_, ?_⟩)
     all_goals try simp only [kk0, g100, e21, e25, e29, e31, e34, e35, e36, e37, e38, xp, ↓EVd, isCall, sevalprocAttr]
     all_goals first | omega | exact lq (by omega) | exact nq (by omega) | rfl | (congr 1; omega)
   rcases iteE hm1 with ⟨e40, hm1⟩ | ⟨e40, hm1⟩
   · have e41 : xg Tryd.prog 58 (xf (⟨(⟨0, 1, 1, 15⟩ : Ar4_Int), (⟨0, 4, 0, 65535⟩ : Ar4_Int), (⟨0, 7, 0, 268435455⟩ : Ar4_Int)⟩ : Ar3_Ar4_Int)) (int v8) = some (.agg [int 0, int 4, int 0, int 65535]) := (show xg Tryd.prog 58 (xf (⟨(⟨0, 1, 1, 15⟩ : Ar4_Int), (⟨0, 4, 0, 65535⟩ : Ar4_Int), (⟨0, 7, 0, 268435455⟩ : Ar4_Int)⟩ : Ar3_Ar4_Int)) (int v8) = some (.agg [int 0, int 4, int 0, int 65535]) from idxE xkb xvb 1 (by first | rfl | (have h := of_eq_true e40; omega) | (have h := e40; omega)) (by decide) rfl)
     have e42 : xg Tryd.prog 58 (.agg [int 0, int 1, int 1, int 15, int 0, int 4, int 0, int 65535, int 0, int 7, int 0, int 268435455]) (int v8) = some (.agg [int 0, int 4, int 0, int 65535]) := (show xg Tryd.prog 58 (.agg [int 0, int 1, int 1, int 15, int 0, int 4, int 0, int 65535, int 0, int 7, int 0, int 268435455]) (int v8) = some (.agg [int 0, int 4, int 0, int 65535]) from idxE xkb xvb 1 (by first | rfl | (have h := of_eq_true e40; omega) | (have h := e40; omega)) (by decide) rfl)
     have e43 : xg Tryd.prog 58 (xf (⟨(⟨0, 1, 1, 15⟩ : Ar4_Int), (⟨0, 4, 0, 65535⟩ : Ar4_Int), (⟨0, 7, 0, 268435455⟩ : Ar4_Int)⟩ : Ar3_Ar4_Int)) (int 1) = some (.agg [int 0, int 4, int 0, int 65535]) := (show xg Tryd.prog 58 (xf (⟨(⟨0, 1, 1, 15⟩ : Ar4_Int), (⟨0, 4, 0, 65535⟩ : Ar4_Int), (⟨0, 7, 0, 268435455⟩ : Ar4_Int)⟩ : Ar3_Ar4_Int)) (int 1) = some (.agg [int 0, int 4, int 0, int 65535]) from idxE xkb xvb 1 (by first | rfl | (have h := of_eq_true e40; omega) | (have h := e40; omega)) (by decide) rfl)
     have e44 : xg Tryd.prog 58 (.agg [int 0, int 1, int 1, int 15, int 0, int 4, int 0, int 65535, int 0, int 7, int 0, int 268435455]) (int 1) = some (.agg [int 0, int 4, int 0, int 65535]) := (show xg Tryd.prog 58 (.agg [int 0, int 1, int 1, int 15, int 0, int 4, int 0, int 65535, int 0, int 7, int 0, int 268435455]) (int 1) = some (.agg [int 0, int 4, int 0, int 65535]) from idxE xkb xvb 1 (by first | rfl | (have h := of_eq_true e40; omega) | (have h := e40; omega)) (by decide) rfl)
     have g101 := And.intro (And.intro (And.intro ((e1)) (And.intro ((e2)) ((e3)))) (And.intro ((e4)) (And.intro ((e5)) ((e13))))) (And.intro (And.intro ((e15)) (And.intro ((e40)) ((e41)))) (And.intro ((e42)) (And.intro ((e43)) ((e44)))))
     rcases iteE hm1 with ⟨e46, hm1⟩ | ⟨e46, hm1⟩
     · have e47 : (.agg [int 0, int 0, int 0] : AV) = xo (⟨0, 0, 0⟩ : Origin) := _root_.id rfl
       obtain rfl := Option.some.inj hm1
       obtain rfl := hO0 _ rfl
       try dsimp only at hm0
       obtain rfl := Option.some.inj hm0
       simp only [kk0, g101, e46, e47, xp, ↓EVd, isCall, sevalprocAttr]
       all_goals first | done | rfl | exact xn (by simp only [CLO]) | exact xgb (by simp only [CLO]) (Sub.tup (Subs.cons (Sub.refl _) (Subs.cons (Sub.refl _) (Subs.nil))))
     obtain ⟨v48, h49, hm1⟩ := bsE hm1
     have e50 := show xrc Tryd.prog 9 (str v7) none (some (int 4)) none = some (str v48) from xwh (by kernel_rfl) h49
     obtain ⟨v51, h52, hm1⟩ := bsE hm1
     simp only [kk0, g101, e46, e50, xp, ↓EVd, isCall, sevalprocAttr]
     refine qc (x2e _ _ _ _ h52) rfl ?_
     rcases itbE hm1 with ⟨e54, hm1⟩ | ⟨e54, hm1⟩
     · have e55 : (.agg [int 0, int 0, int 0] : AV) = xo (⟨0, 0, 0⟩ : Origin) := _root_.id rfl
       obtain rfl := Option.some.inj hm1
       obtain rfl := hO0 _ rfl
       try dsimp only at hm0
       obtain rfl := Option.some.inj hm0
       simp only [kk0, g101, e46, e50, e54, e55, xp, ↓EVd, isCall, sevalprocAttr]
       all_goals first | done | rfl | exact xn (by simp only [CLO]) | exact xgb (by simp only [CLO]) (Sub.tup (Subs.cons (Sub.refl _) (Subs.cons (Sub.refl _) (Subs.nil))))
     simp only [kk0, g101, e46, e50, e54, xp, ↓EVd, isCall, sevalprocAttr]
     refine fineI [([], []), ([], []), ([], []), ([], []), ([], []), ([(x6 + 3)], []), ([], []), ([], []), ([], [2]), ([], [])] rfl (by simp only [MT, sevalprocAttr]; first | done | omega) ?_
     have e56 : convE Tryd.prog 64 3 (ik .u64 v51.1) = some (int (IntKind.i64.wrap v51.1), []) := xno _ (by kernel_rfl) (by kernel_rfl)
     obtain ⟨v57, h58, hm1⟩ := bsE hm1
     have e59 := show xrc Tryd.prog 9 (str v7) (some (int 4)) none none = some (str v57) from xwh (by kernel_rfl) h58
     have e60 : (0 ≤ v8) = True := eq_true (by first | (have h := of_eq_true e40; omega) | (have h := e40; omega))
     have e61 : (v8 < ((3 : Nat) : Int)) = True := eq_true (by first | (have h := of_eq_true e40; omega) | (have h := e40; omega))
     have e62 : (v8 < (3 : Int)) = True := eq_true (by first | (have h := of_eq_true e40; omega) | (have h := e40; omega))
     have e63 : (v8).toNat = 1 := (by first | (have h := of_eq_true e40; omega) | (have h := e40; omega))
     obtain rfl := Option.some.inj hm1
     simp only [kk0, g101, e46, e50, e54, e56, e59, e60, e61, e62, e63, xp, ↓EVd, isCall, sevalprocAttr]
     refine TI.here (hI0 _ rfl _ ⟨?_, ?_, ?_, ?_, ?_, ?_, ?_, ?_, ?_, ?_⟩)
     all_goals try simp only [kk0, g101, e46, e50, e54, e56, e59, e60, e61, e62, e63, xp, ↓EVd, isCall, sevalprocAttr]
     all_goals first | omega | exact lq (by omega) | exact nq (by omega) | rfl | (congr 1; omega)
   obtain ⟨e65, hm1⟩ := ckE hm1
   have e66 : xg Tryd.prog 58 (xf (⟨(⟨0, 1, 1, 15⟩ : Ar4_Int), (⟨0, 4, 0, 65535⟩ : Ar4_Int), (⟨0, 7, 0, 268435455⟩ : Ar4_Int)⟩ : Ar3_Ar4_Int)) (int v8) = some (.agg [int 0, int 7, int 0, int 268435455]) := (show xg Tryd.prog 58 (xf (⟨(⟨0, 1, 1, 15⟩ : Ar4_Int), (⟨0, 4, 0, 65535⟩ : Ar4_Int), (⟨0, 7, 0, 268435455⟩ : Ar4_Int)⟩ : Ar3_Ar4_Int)) (int v8) = some (.agg [int 0, int 7, int 0, int 268435455]) from idxE xkb xvb 2 (by first | rfl | (have h := of_eq_true e65; omega) | (have h := e65; omega)) (by decide) rfl)
   have e67 : xg Tryd.prog 58 (.agg [int 0, int 1, int 1, int 15, int 0, int 4, int 0, int 65535, int 0, int 7, int 0, int 268435455]) (int v8) = some (.agg [int 0, int 7, int 0, int 268435455]) := (show xg Tryd.prog 58 (.agg [int 0, int 1, int 1, int 15, int 0, int 4, int 0, int 65535, int 0, int 7, int 0, int 268435455]) (int v8) = some (.agg [int 0, int 7, int 0, int 268435455]) from idxE xkb xvb 2 (by first | rfl | (have h := of_eq_true e65; omega) | (have h := e65; omega)) (by decide) rfl)
   have e68 : xg Tryd.prog 58 (xf (⟨(⟨0, 1, 1, 15⟩ : Ar4_Int), (⟨0, 4, 0, 65535⟩ : Ar4_Int), (⟨0, 7, 0, 268435455⟩ : Ar4_Int)⟩ : Ar3_Ar4_Int)) (int 2) = some (.agg [int 0, int 7, int 0, int 268435455]) := (show xg Tryd.prog 58 (xf (⟨(⟨0, 1, 1, 15⟩ : Ar4_Int), (⟨0, 4, 0, 65535⟩ : Ar4_Int), (⟨0, 7, 0, 268435455⟩ : Ar4_Int)⟩ : Ar3_Ar4_Int)) (int 2) = some (.agg [int 0, int 7, int 0, int 268435455]) from idxE xkb xvb 2 (by first | rfl | (have h := of_eq_true e65; omega) | (have h := e65; omega)) (by decide) rfl)
   have e69 : xg Tryd.prog 58 (.agg [int 0, int 1, int 1, int 15, int 0, int 4, int 0, int 65535, int 0, int 7, int 0, int 268435455]) (int 2) = some (.agg [int 0, int 7, int 0, int 268435455]) := (show xg Tryd.prog 58 (.agg [int 0, int 1, int 1, int 15, int 0, int 4, int 0, int 65535, int 0, int 7, int 0, int 268435455]) (int 2) = some (.agg [int 0, int 7, int 0, int 268435455]) from idxE xkb xvb 2 (by first | rfl | (have h := of_eq_true e65; omega) | (have h := e65; omega)) (by decide) rfl)
   have g102 := And.intro (And.intro (And.intro ((e1)) (And.intro ((e2)) ((e3)))) (And.intro ((e4)) (And.intro ((e5)) ((e13))))) (And.intro (And.intro ((e15)) (And.intro ((e40)) ((e65)))) (And.intro (And.intro ((e66)) ((e67))) (And.intro ((e68)) ((e69)))))
   rcases iteE hm1 with ⟨e71, hm1⟩ | ⟨e71, hm1⟩
   · have e72 : (.agg [int 0, int 0, int 0] : AV) = xo (⟨0, 0, 0⟩ : Origin) := _root_.id rfl
     obtain rfl := Option.some.inj hm1
     obtain rfl := hO0 _ rfl
     try dsimp only at hm0
     obtain rfl := Option.some.inj hm0
     simp only [kk0, g102, e71, e72, xp, ↓EVd, isCall, sevalprocAttr]
     all_goals first | done | rfl | exact xn (by simp only [CLO]) | exact xgb (by simp only [CLO]) (Sub.tup (Subs.cons (Sub.refl _) (Subs.cons (Sub.refl _) (Subs.nil))))
   obtain ⟨v73, h74, hm1⟩ := bsE hm1
   have e75 := show xrc Tryd.prog 9 (str v7) none (some (int 7)) none = some (str v73) from xwh (by kernel_rfl) h74
   obtain ⟨v76, h77, hm1⟩ := bsE hm1
   simp only [kk0, g102, e71, e75, xp, ↓EVd, isCall, sevalprocAttr]
   refine qc (x2e _ _ _ _ h77) rfl ?_
   rcases itbE hm1 with ⟨e79, hm1⟩ | ⟨e79, hm1⟩
   · have e80 : (.agg [int 0, int 0, int 0] : AV) = xo (⟨0, 0, 0⟩ : Origin) := _root_.id rfl
     obtain rfl := Option.some.inj hm1
     obtain rfl := hO0 _ rfl
     try dsimp only at hm0
     obtain rfl := Option.some.inj hm0
     simp only [kk0, g102, e71, e75, e79, e80, xp, ↓EVd, isCall, sevalprocAttr]
     all_goals first | done | rfl | exact xn (by simp only [CLO]) | exact xgb (by simp only [CLO]) (Sub.tup (Subs.cons (Sub.refl _) (Subs.cons (Sub.refl _) (Subs.nil))))
   simp only [kk0, g102, e71, e75, e79, xp, ↓EVd, isCall, sevalprocAttr]
   refine fineI [([], []), ([], []), ([], []), ([], []), ([], []), ([(x6 + 3)], []), ([], []), ([], []), ([], [2]), ([], [])] rfl (by simp only [MT, sevalprocAttr]; first | done | omega) ?_
   have e81 : convE Tryd.prog 64 3 (ik .u64 v76.1) = some (int (IntKind.i64.wrap v76.1), []) := xno _ (by kernel_rfl) (by kernel_rfl)
   obtain ⟨v82, h83, hm1⟩ := bsE hm1
   have e84 := show xrc Tryd.prog 9 (str v7) (some (int 7)) none none = some (str v82) from xwh (by kernel_rfl) h83
   obtain ⟨e86, hm1⟩ := ckE hm1
   have e87 : (0 ≤ v8) = True := eq_true (by first | (have h := of_eq_true e86; omega) | (have h := e86; omega))
   have e88 : (v8 < ((3 : Nat) : Int)) = True := eq_true (by first | (have h := of_eq_true e86; omega) | (have h := e86; omega))
   have e89 : (v8 < (3 : Int)) = True := eq_true (by first | (have h := of_eq_true e86; omega) | (have h := e86; omega))
   have e90 : (v8).toNat = 2 := (by first | (have h := of_eq_true e86; omega) | (have h := e86; omega))
   obtain rfl := Option.some.inj hm1
   simp only [kk0, g102, e71, e75, e79, e81, e84, e86, e87, e88, e89, e90, xp, ↓EVd, isCall, sevalprocAttr]
   refine TI.here (hI0 _ rfl _ ⟨?_, ?_, ?_, ?_, ?_, ?_, ?_, ?_, ?_, ?_⟩)
   all_goals try simp only [kk0, g102, e71, e75, e79, e81, e84, e86, e87, e88, e89, e90, xp, ↓EVd, isCall, sevalprocAttr]
   all_goals first | omega | exact lq (by omega) | exact nq (by omega) | rfl | (congr 1; omega)
 obtain rfl := Option.some.inj hm1
 simp only [kk0, e1, e2, e3, e4, e5, e13, xp, ↓EVd, isCall, sevalprocAttr]
 refine TI.here (hJ0_0 _ ⟨v9, ⟨?_, ?_, ?_, ?_, ?_, ?_, ?_⟩, hO0 _ rfl⟩)
 all_goals try simp only [kk0, e1, e2, e3, e4, e5, e13, xp, ↓EVd, isCall, sevalprocAttr]
 all_goals first | omega | exact lq (by omega) | exact nq (by omega) | rfl | (congr 1; omega)
end Go.Proofs.YtefdlpandfhcgaaDoor.AL

/- Models of functions, and that the functions are as their models: written by gen.py. -/
set_option linter.all false
set_option maxRecDepth 100000
namespace Go.Proofs.YtefdlpandfhcgaaDoor.AL
open Go Go.Proofs
end Go.Proofs.YtefdlpandfhcgaaDoor.AL

/- Plain laws of chapter 15: names of handles. -/
set_option linter.all false
namespace Go.Proofs.YtefdlpandfhcgaaDoor.AL
open Go Go.Proofs Go.Lib
theorem ckT {p : Prop} [Decidable p] (h : p) : ck p = some () := by unfold ck; rw [if_pos h]
theorem xj6 {a b : List UInt8} : bB a = bB b ↔ a = b := ⟨bB_inj, fun h => by rw [h]⟩
theorem bB_cut (l : List UInt8) (i j : Nat) : (bB l).extract i j = bB ((l.take j).drop i) := by
  apply ByteArray.ext
  simp [bB, ByteArray.data_extract, List.extract_eq_take_drop, List.drop_take]
theorem xsv {l : List UInt8} {lo hi : Option Int} {i j : Nat} (hi1 : lo.getD 0 = (i : Int)) (hj1 : hi.getD ((bB l).size : Int) = (j : Int)) (h1 : i ≤ j) (h2 : j ≤ l.length) : strM (bB l) lo hi = some (bB ((l.take j).drop i)) := by
  unfold strM
  have e : ((bB l).size : Int) = (l.length : Int) := by rw [x1g]
  rw [hi1, hj1, if_pos ⟨by omega, by omega, by omega⟩, Int.toNat_natCast, Int.toNat_natCast, bB_cut]
theorem xho : ∀ c : Nat, repeatL [48] c = List.replicate c 48
  | 0 => rfl
  | c + 1 => by unfold repeatL; rw [xho c]; rfl
theorem pow7 : (16 : Nat) ^ 7 = 268435456 := by decide
theorem fmt_eq {n : Int} (h0 : 0 ≤ n) (hn : n < 268435456) : xyb n 16 = some (bB (hexF 6 n.toNat)) := by
  unfold xyb
  rw [ckT ⟨h0, hn, rfl⟩]
  rfl
theorem x20 {d f n : Nat} (hd : n < 16 ^ (d + 1)) (hf : d ≤ f) : hexF f n = hexF d n := by
  induction f generalizing d n with
  | zero => rw [show d = 0 by omega]
  | succ f ih =>
    cases d with
    | zero =>
      have : n < 16 := by simpa using hd
      unfold hexF
      rw [if_pos this, show n % 16 = n by omega]
    | succ d =>
      unfold hexF
      split
      · rfl
      · rw [ih (d := d) (by rw [Nat.pow_succ] at hd; omega) (by omega)]
theorem xo5 {d n : Nat} (h : n < 16 ^ (d + 1)) (h6 : d ≤ 6) : (hexF 6 n).length ≤ d + 1 ∧ List.replicate (d + 1 - (hexF 6 n).length) 48 ++ hexF 6 n = hexN (d + 1) n := by
  rw [x20 h h6]
  exact xgu d n h
theorem rep_eq {c : Nat} (h : c ≤ 1000) : xcc (ByteArray.mk #[48]) (c : Int) = some (bB (List.replicate c 48)) := by
  unfold xcc
  rw [ckT ⟨by omega, by omega, by decide⟩]
  simp only [Option.bind_some, Int.toNat_natCast]
  rw [xho]
  rfl
def HdP (o : Origin) : Prop := 1 ≤ o.layer ∧ o.layer ≤ 15 ∧ 0 ≤ o.ino ∧ o.ino ≤ 65535 ∧ 0 ≤ o.gen ∧ o.gen ≤ 268435455
instance (o : Origin) : Decidable (HdP o) := inferInstanceAs (Decidable (_ ∧ _))
theorem HdP.r {o : Origin} (h : HdP o) : HdR o := ⟨h.1, h.2.1, h.2.2.1, h.2.2.2.1, h.2.2.2.2.1, h.2.2.2.2.2⟩
theorem HdR.p {o : Origin} (h : HdR o) : HdP o := ⟨h.l0, h.l1, h.i0, h.i1, h.g0, h.g1⟩
def nameH (o : Origin) : List UInt8 × Bool := if HdP o then (hname o, true) else ([], false)
theorem nb : xeb = bB [] := rfl
theorem x8o {d : Nat} {n : Int} {s : List UInt8} (h6 : d ≤ 6) (hs : s.length ≤ 100) (h0 : 0 ≤ n) (hn : n.toNat < 16 ^ (d + 1)) {β : Type} (k : ByteArray → Option β) :
    ((xyb n 16).bind fun v20 => (xcc (ByteArray.mk #[48]) (wr (((d + 1 : Nat) : Int) - (v20.size : Int)))).bind fun v22 => (ck (v22.size + v20.size ≤ 9223372036854775807)).bind fun _ => (ck ((bB s).size + (v22 ++ v20).size ≤ 9223372036854775807)).bind fun _ => k (bB s ++ (v22 ++ v20))) = k (bB (s ++ hexN (d + 1) n.toNat)) := by
  have hp : 16 ^ (d + 1) ≤ 16 ^ 7 := Nat.pow_le_pow_right (by decide) (by omega)
  rw [pow7] at hp
  rw [fmt_eq h0 (by omega)]
  simp only [Option.bind_some]
  obtain ⟨p1, p2⟩ := xo5 hn h6
  have hw : wr (((d + 1 : Nat) : Int) - ((bB (hexF 6 n.toNat)).size : Int)) = ((d + 1 - (hexF 6 n.toNat).length : Nat) : Int) := by
    rw [x1g, wr_in (by omega) (by omega)]
    omega
  rw [hw, rep_eq (by omega)]
  simp only [Option.bind_some, bB_app, x1g, List.length_append, List.length_replicate]
  rw [ckT (by omega)]
  simp only [Option.bind_some]
  rw [ckT (by omega)]
  simp only [Option.bind_some]
  rw [p2]
theorem x6y (o : Origin) : xhf o = some (bB (nameH o).1, (nameH o).2) := by
  unfold xhf
  obtain ⟨K, hK⟩ : ∃ K, big = K + 1 + 1 + 1 + 1 := ⟨999999999999999996, by rw [big_eq]⟩
  by_cases hl : 1 ≤ o.layer ∧ o.layer ≤ 15
  · have b0 : xfb o (bB [], 0) = some (.nx (bB ([] ++ hexN 1 o.layer.toNat), wr (0 + 1))) := by
      unfold xfb
      simp only
      rw [if_pos (show (0 : Int) < 3 by decide), if_pos trivial, if_neg (by omega), if_neg (by omega)]
      exact x8o (d := 0) (s := []) (by omega) (by simp) (by omega) (show o.layer.toNat < 16 by omega) (fun x => (some (.nx (x, wr (0 + 1))) : Option (St (ByteArray × Int) ((ByteArray) ⊕ (ByteArray × Bool)))))
    rw [hK, nb, x6b, b0]
    simp only [Option.bind_some]
    rw [show wr (0 + 1) = 1 from rfl, x6b]
    by_cases hi : 0 ≤ o.ino ∧ o.ino ≤ 65535
    · have b1 : xfb o (bB ([] ++ hexN 1 o.layer.toNat), 1) = some (.nx (bB (([] ++ hexN 1 o.layer.toNat) ++ hexN 4 o.ino.toNat), wr (1 + 1))) := by
        unfold xfb
        simp only
        rw [if_pos (show (1 : Int) < 3 by decide), if_neg (by decide), if_pos trivial, if_neg (by omega), if_neg (by omega)]
        exact x8o (d := 3) (s := [] ++ hexN 1 o.layer.toNat) (by omega) (by simp [x3e]) (by omega) (show o.ino.toNat < 65536 by omega) (fun x => (some (.nx (x, wr (1 + 1))) : Option (St (ByteArray × Int) ((ByteArray) ⊕ (ByteArray × Bool)))))
      rw [b1]
      simp only [Option.bind_some]
      rw [show wr (1 + 1) = 2 from rfl, x6b]
      by_cases hg : 0 ≤ o.gen ∧ o.gen ≤ 268435455
      · have b2 : xfb o (bB (([] ++ hexN 1 o.layer.toNat) ++ hexN 4 o.ino.toNat), 2) = some (.nx (bB ((([] ++ hexN 1 o.layer.toNat) ++ hexN 4 o.ino.toNat) ++ hexN 7 o.gen.toNat), wr (2 + 1))) := by
          unfold xfb
          simp only
          rw [if_pos (show (2 : Int) < 3 by decide), if_neg (by decide), if_neg (by decide), ckT trivial]
          simp only [Option.bind_some]
          rw [if_neg (by omega), if_neg (by omega)]
          exact x8o (d := 6) (s := ([] ++ hexN 1 o.layer.toNat) ++ hexN 4 o.ino.toNat) (by omega) (by simp [x3e]) (by omega) (show o.gen.toNat < 268435456 by omega) (fun x => (some (.nx (x, wr (2 + 1))) : Option (St (ByteArray × Int) ((ByteArray) ⊕ (ByteArray × Bool)))))
        rw [b2]
        simp only [Option.bind_some]
        rw [show wr (2 + 1) = 3 from rfl, x6b]
        have b3 : ∀ s, xfb o (bB s, 3) = some (.out (.inl (bB s))) := by
          intro s
          unfold xfb
          simp only
          rw [if_neg (by decide)]
        rw [b3]
        simp only [Option.bind_some]
        unfold nameH
        rw [if_pos (show HdP o from ⟨hl.1, hl.2, hi.1, hi.2, hg.1, hg.2⟩)]
        simp [hname]
      · have b2 : ∀ s, xfb o (bB s, 2) = some (.out (.inr (xeb, false))) := by
          intro s
          unfold xfb
          simp only
          rw [if_pos (show (2 : Int) < 3 by decide), if_neg (by decide), if_neg (by decide), ckT trivial]
          simp only [Option.bind_some]
          by_cases h1 : o.gen < 0
          · rw [if_pos h1]
          · rw [if_neg h1, if_pos (by omega)]
        rw [b2]
        unfold nameH
        rw [if_neg (fun h => hg ⟨h.2.2.2.2.1, h.2.2.2.2.2⟩)]
        rfl
    · have b1 : ∀ s, xfb o (bB s, 1) = some (.out (.inr (xeb, false))) := by
        intro s
        unfold xfb
        simp only
        rw [if_pos (show (1 : Int) < 3 by decide), if_neg (by decide), if_pos trivial]
        by_cases h1 : o.ino < 0
        · rw [if_pos h1]
        · rw [if_neg h1, if_pos (by omega)]
      rw [b1]
      unfold nameH
      rw [if_neg (fun h => hi ⟨h.2.2.1, h.2.2.2.1⟩)]
      rfl
  · have b0 : xfb o (bB [], 0) = some (.out (.inr (xeb, false))) := by
      unfold xfb
      simp only
      rw [if_pos (show (0 : Int) < 3 by decide), if_pos trivial]
      by_cases h1 : o.layer < 1
      · rw [if_pos h1]
      · rw [if_neg h1, if_pos (by omega)]
    rw [hK, nb, x6b, b0]
    unfold nameH
    rw [if_neg (fun h => hl ⟨h.1, h.2.1⟩)]
    rfl
end Go.Proofs.YtefdlpandfhcgaaDoor.AL

/- Plain laws of chapter 15: the handle of a name. -/
set_option linter.all false
namespace Go.Proofs.YtefdlpandfhcgaaDoor.AL
open Go Go.Proofs Go.Lib
def zeroO : Origin := ⟨0, 0, 0⟩
def readO (s : List UInt8) : Origin := ⟨((parse16 0 (s.take 1)).getD 0 : Nat), ((parse16 0 ((s.drop 1).take 4)).getD 0 : Nat), ((parse16 0 (s.drop 5)).getD 0 : Nat)⟩
def parseH (s : List UInt8) : Origin × Bool := if HdP (readO s) ∧ hname (readO s) = s then (readO s, true) else (zeroO, false)
theorem x0x {o : Origin} (h : HdP o) : readO (hname o) = o := by
  obtain ⟨a1, a2, a3⟩ := xko o
  obtain ⟨h1, h2, h3, h4, h5, h6⟩ := h
  unfold readO
  rw [a1, a2, a3, x1d 1 _ (show _ < 16 by omega), x1d 4 _ (show _ < 65536 by omega), x1d 7 _ (show _ < 268435456 by omega)]
  obtain ⟨l, i, g⟩ := o
  simp only [Option.getD_some, Origin.mk.injEq] at *
  omega
theorem xkv {o : Origin} (h : HdP o) : parseH (hname o) = (o, true) := by
  unfold parseH
  rw [x0x h, if_pos ⟨h, rfl⟩]
theorem xvt (s : List UInt8) : parseH s = (zeroO, false) ∨ ∃ o, HdP o ∧ s = hname o ∧ parseH s = (o, true) := by
  unfold parseH
  split
  · rename_i h
    exact .inr ⟨_, h.1, h.2.symm, rfl⟩
  · exact .inl rfl
theorem xud {s : List UInt8} (h : ∀ o, HdP o → s ≠ hname o) : parseH s = (zeroO, false) := by
  rcases xvt s with e | ⟨o, ho, e, _⟩
  · exact e
  · exact absurd e (h o ho)
theorem x5h {o : Origin} (h : HdP o) : parse16 0 ((hname o).take 1) = some o.layer.toNat ∧ parse16 0 (((hname o).drop 1).take 4) = some o.ino.toNat ∧ parse16 0 ((((hname o).drop 1).drop 4).take 7) = some o.gen.toNat := by
  obtain ⟨a1, a2, a3⟩ := xko o
  obtain ⟨h1, h2, h3, h4, h5, h6⟩ := h
  refine ⟨?_, ?_, ?_⟩
  · rw [a1]; exact x1d 1 _ (show _ < 16 by omega)
  · rw [a2]; exact x1d 4 _ (show _ < 65536 by omega)
  · rw [List.drop_drop, a3, List.take_of_length_le (by rw [x3e]; omega)]
    exact x1d 7 _ (show _ < 268435456 by omega)
theorem xmo {r : List UInt8} {d : Nat} (h1 : 1 ≤ d) (h7 : d ≤ 7) {β : Type} (bad : Option β) (k : Int → ByteArray → Option β) :
    (if ((bB r).size : Int) < (d : Int) then bad else (strM (bB r) none (some (d : Int))).bind fun v21 => (x8b v21 16 32).bind fun v24 => if v24.2 = true then bad else (strM (bB r) (some (d : Int)) none).bind fun v30 => k (IntKind.i64.wrap v24.1) v30) =
    if r.length < d then bad else match parse16 0 (r.take d) with
      | none => bad
      | some n => k (n : Int) (bB (r.drop d)) := by
  by_cases hl : r.length < d
  · rw [if_pos (by rw [x1g]; omega), if_pos hl]
  · rw [if_neg (by rw [x1g]; omega), if_neg hl]
    have s1 : strM (bB r) none (some (d : Int)) = some (bB (r.take d)) := by
      have := xsv (l := r) (lo := none) (hi := some (d : Int)) (i := 0) (j := d) rfl rfl (by omega) (by omega)
      rw [this]
      simp
    have s2 : strM (bB r) (some (d : Int)) none = some (bB (r.drop d)) := by
      have := xsv (l := r) (lo := some (d : Int)) (hi := none) (i := d) (j := r.length) rfl (by simp [x1g]) (by omega) (by omega)
      rw [this, List.take_length]
    rw [s1, s2]
    simp only [Option.bind_some]
    have ht : (r.take d).length = d := by rw [List.length_take]; omega
    unfold x8b
    rw [ckT ⟨by rw [x1g]; omega, by rw [x1g]; omega, rfl, rfl⟩]
    simp only [Option.bind_some]
    rw [show (bB (r.take d)).data.toList = r.take d from rfl]
    cases hp : parse16 0 (r.take d) with
    | none => simp
    | some n =>
      have hn := xgp _ _ _ hp
      rw [ht] at hn
      have hpw : 16 ^ d ≤ 16 ^ 7 := Nat.pow_le_pow_right (by decide) h7
      rw [pow7] at hpw
      have hw : IntKind.i64.wrap (n : Int) = n := wr_in (by omega) (by omega)
      simp only [Bool.false_eq_true, if_false]
      rw [hw]
abbrev PRes := (Ar3_Int) ⊕ (Origin × Bool)
abbrev PSt := ByteArray × Int × Ar3_Int
def badP : Option (St PSt PRes) := some (.out (.inr ((⟨0, 0, 0⟩ : Origin), false)))
theorem pstep0 (r : List UInt8) (x : Ar3_Int) : x0c (bB r, 0, x) = if r.length < 1 then badP else match parse16 0 (r.take 1) with
    | none => badP
    | some n => some (.nx (bB (r.drop 1), 1, ({ x with c0 := n } : Ar3_Int))) := by
  rw [← xmo (r := r) (d := 1) (by omega) (by omega) badP (fun n v => some (.nx (v, 1, ({ x with c0 := n } : Ar3_Int))))]
  rfl
theorem pstep1 (r : List UInt8) (x : Ar3_Int) : x0c (bB r, 1, x) = if r.length < 4 then badP else match parse16 0 (r.take 4) with
    | none => badP
    | some n => some (.nx (bB (r.drop 4), 2, ({ x with c1 := n } : Ar3_Int))) := by
  rw [← xmo (r := r) (d := 4) (by omega) (by omega) badP (fun n v => some (.nx (v, 2, ({ x with c1 := n } : Ar3_Int))))]
  rfl
theorem pstep2 (r : List UInt8) (x : Ar3_Int) : x0c (bB r, 2, x) = if r.length < 7 then badP else match parse16 0 (r.take 7) with
    | none => badP
    | some n => some (.nx (bB (r.drop 7), 3, ({ x with c2 := n } : Ar3_Int))) := by
  rw [← xmo (r := r) (d := 7) (by omega) (by omega) badP (fun n v => some (.nx (v, 3, ({ x with c2 := n } : Ar3_Int))))]
  rfl
theorem pstep3 (r : ByteArray) (x : Ar3_Int) : x0c (r, 3, x) = some (.out (.inl x)) := rfl
theorem xgv (s : List UInt8) : x7c (bB s) = some (parseH s) := by
  unfold x7c
  obtain ⟨K, hK⟩ : ∃ K, big = K + 1 + 1 + 1 + 1 := ⟨999999999999999996, by rw [big_eq]⟩
  rw [hK, x6b, pstep0]
  by_cases l1 : s.length < 1
  · rw [if_pos l1, xud (fun o ho e => by have := xgn o; rw [← e] at this; omega)]
    rfl
  rw [if_neg l1]
  cases p1 : parse16 0 (s.take 1) with
  | none =>
    rw [xud (fun o ho e => by have := (x5h ho).1; rw [← e, p1] at this; cases this)]
    rfl
  | some n1 =>
    simp only [Option.bind_some]
    rw [x6b, pstep1]
    by_cases l2 : (s.drop 1).length < 4
    · rw [if_pos l2, xud (fun o ho e => by have := xgn o; rw [← e] at this; rw [List.length_drop] at l2; omega)]
      rfl
    rw [if_neg l2]
    cases p2 : parse16 0 ((s.drop 1).take 4) with
    | none =>
      rw [xud (fun o ho e => by have := (x5h ho).2.1; rw [← e, p2] at this; cases this)]
      rfl
    | some n2 =>
      simp only [Option.bind_some]
      rw [x6b, pstep2]
      by_cases l3 : ((s.drop 1).drop 4).length < 7
      · rw [if_pos l3, xud (fun o ho e => by have := xgn o; rw [← e] at this; rw [List.length_drop, List.length_drop] at l3; omega)]
        rfl
      rw [if_neg l3]
      cases p3 : parse16 0 (((s.drop 1).drop 4).take 7) with
      | none =>
        rw [xud (fun o ho e => by have := (x5h ho).2.2; rw [← e, p3] at this; cases this)]
        rfl
      | some n3 =>
        simp only [Option.bind_some]
        rw [x6b, pstep3]
        simp only [Option.bind_some]
        rw [x6y]
        simp only [Option.bind_some, nameH]
        have hone : ∀ o, HdP o → s = hname o → o = ⟨(n1 : Int), (n2 : Int), (n3 : Int)⟩ := by
          intro o ho e
          obtain ⟨q1, q2, q3⟩ := x5h ho
          rw [← e] at q1 q2 q3
          rw [p1] at q1; rw [p2] at q2; rw [p3] at q3
          have q1 := Option.some.inj q1; have q2 := Option.some.inj q2; have q3 := Option.some.inj q3
          obtain ⟨h1, h2, h3, h4, h5, h6⟩ := ho
          obtain ⟨l, i, g⟩ := o
          simp only [Origin.mk.injEq] at *
          omega
        by_cases hd : HdP ⟨(n1 : Int), (n2 : Int), (n3 : Int)⟩
        · rw [if_pos hd]
          simp only [Bool.not_true, Bool.false_eq_true, if_false, xj6]
          by_cases he : hname ⟨(n1 : Int), (n2 : Int), (n3 : Int)⟩ = s
          · rw [if_pos he, ← he, xkv hd]
          · rw [if_neg he, xud (fun o ho e => he (by rw [← hone o ho e]; exact e.symm))]
            rfl
        · rw [if_neg hd, xud (fun o ho e => hd (by rw [← hone o ho e]; exact ho))]
          rfl
end Go.Proofs.YtefdlpandfhcgaaDoor.AL

/- Models of functions, and that the functions are as their models: written by gen.py. -/
set_option linter.all false
set_option maxRecDepth 100000
namespace Go.Proofs.YtefdlpandfhcgaaDoor.AL
open Go Go.Proofs
def xie (a0 : Int) : Option (Bool) := if 97 ≤ a0 then if a0 ≤ 122 then some true
 else if 48 ≤ a0 then if a0 ≤ 57 then some true
 else if a0 = 46 then some true
 else if a0 = 95 then some true
 else if a0 = 45 then some true
 else some false
 else if a0 = 46 then some true
 else if a0 = 95 then some true
 else if a0 = 45 then some true
 else some false
 else if 48 ≤ a0 then if a0 ≤ 57 then some true
 else if a0 = 46 then some true
 else if a0 = 95 then some true
 else if a0 = 45 then some true
 else some false
 else if a0 = 46 then some true
 else if a0 = 95 then some true
 else if a0 = 45 then some true
 else some false
def xdb := aI (@EV) (@R5)
set_option maxHeartbeats 2000000 in
theorem xdp (a0 : Int) (r : Bool) (hm0 : xie a0 = some r) : Ok Tryd.prog 96 [ik .u8 a0] (bool r) := by
 unfold xie at hm0
 refine okG xcp ?_
 unfold xhk
 rcases iteE hm0 with ⟨e2, hm0⟩ | ⟨e2, hm0⟩
 · rcases iteE hm0 with ⟨e4, hm0⟩ | ⟨e4, hm0⟩
   · obtain rfl := Option.some.inj hm0
     simp only [e2, e4, xdb, ↓EVd, isCall, sevalprocAttr]
     all_goals first | done | rfl
   rcases iteE hm0 with ⟨e6, hm0⟩ | ⟨e6, hm0⟩
   · rcases iteE hm0 with ⟨e8, hm0⟩ | ⟨e8, hm0⟩
     · obtain rfl := Option.some.inj hm0
       simp only [e2, e4, e6, e8, xdb, ↓EVd, isCall, sevalprocAttr]
       all_goals first | done | rfl
     rcases iteE hm0 with ⟨e10, hm0⟩ | ⟨e10, hm0⟩
     · obtain rfl := Option.some.inj hm0
       simp only [e2, e4, e6, e8, e10, xdb, ↓EVd, isCall, sevalprocAttr]
       all_goals first | done | rfl
     rcases iteE hm0 with ⟨e12, hm0⟩ | ⟨e12, hm0⟩
     · obtain rfl := Option.some.inj hm0
       simp only [e2, e4, e6, e8, e10, e12, xdb, ↓EVd, isCall, sevalprocAttr]
       all_goals first | done | rfl
     rcases iteE hm0 with ⟨e14, hm0⟩ | ⟨e14, hm0⟩
     · obtain rfl := Option.some.inj hm0
       simp only [e2, e4, e6, e8, e10, e12, e14, xdb, ↓EVd, isCall, sevalprocAttr]
       all_goals first | done | rfl
     obtain rfl := Option.some.inj hm0
     simp only [e2, e4, e6, e8, e10, e12, e14, xdb, ↓EVd, isCall, sevalprocAttr]
     all_goals first | done | rfl
   rcases iteE hm0 with ⟨e16, hm0⟩ | ⟨e16, hm0⟩
   · obtain rfl := Option.some.inj hm0
     simp only [e2, e4, e6, e16, xdb, ↓EVd, isCall, sevalprocAttr]
     all_goals first | done | rfl
   rcases iteE hm0 with ⟨e18, hm0⟩ | ⟨e18, hm0⟩
   · obtain rfl := Option.some.inj hm0
     simp only [e2, e4, e6, e16, e18, xdb, ↓EVd, isCall, sevalprocAttr]
     all_goals first | done | rfl
   rcases iteE hm0 with ⟨e20, hm0⟩ | ⟨e20, hm0⟩
   · obtain rfl := Option.some.inj hm0
     simp only [e2, e4, e6, e16, e18, e20, xdb, ↓EVd, isCall, sevalprocAttr]
     all_goals first | done | rfl
   obtain rfl := Option.some.inj hm0
   simp only [e2, e4, e6, e16, e18, e20, xdb, ↓EVd, isCall, sevalprocAttr]
   all_goals first | done | rfl
 rcases iteE hm0 with ⟨e22, hm0⟩ | ⟨e22, hm0⟩
 · rcases iteE hm0 with ⟨e24, hm0⟩ | ⟨e24, hm0⟩
   · obtain rfl := Option.some.inj hm0
     simp only [e2, e22, e24, xdb, ↓EVd, isCall, sevalprocAttr]
     all_goals first | done | rfl
   rcases iteE hm0 with ⟨e26, hm0⟩ | ⟨e26, hm0⟩
   · obtain rfl := Option.some.inj hm0
     simp only [e2, e22, e24, e26, xdb, ↓EVd, isCall, sevalprocAttr]
     all_goals first | done | rfl
   rcases iteE hm0 with ⟨e28, hm0⟩ | ⟨e28, hm0⟩
   · obtain rfl := Option.some.inj hm0
     simp only [e2, e22, e24, e26, e28, xdb, ↓EVd, isCall, sevalprocAttr]
     all_goals first | done | rfl
   rcases iteE hm0 with ⟨e30, hm0⟩ | ⟨e30, hm0⟩
   · obtain rfl := Option.some.inj hm0
     simp only [e2, e22, e24, e26, e28, e30, xdb, ↓EVd, isCall, sevalprocAttr]
     all_goals first | done | rfl
   obtain rfl := Option.some.inj hm0
   simp only [e2, e22, e24, e26, e28, e30, xdb, ↓EVd, isCall, sevalprocAttr]
   all_goals first | done | rfl
 rcases iteE hm0 with ⟨e32, hm0⟩ | ⟨e32, hm0⟩
 · obtain rfl := Option.some.inj hm0
   simp only [e2, e22, e32, xdb, ↓EVd, isCall, sevalprocAttr]
   all_goals first | done | rfl
 rcases iteE hm0 with ⟨e34, hm0⟩ | ⟨e34, hm0⟩
 · obtain rfl := Option.some.inj hm0
   simp only [e2, e22, e32, e34, xdb, ↓EVd, isCall, sevalprocAttr]
   all_goals first | done | rfl
 rcases iteE hm0 with ⟨e36, hm0⟩ | ⟨e36, hm0⟩
 · obtain rfl := Option.some.inj hm0
   simp only [e2, e22, e32, e34, e36, xdb, ↓EVd, isCall, sevalprocAttr]
   all_goals first | done | rfl
 obtain rfl := Option.some.inj hm0
 simp only [e2, e22, e32, e34, e36, xdb, ↓EVd, isCall, sevalprocAttr]
 all_goals first | done | rfl
def x9e (a0 : ByteArray) : Int → Option (St (Int) ((Unit) ⊕ (Bool)))
 | v10 => if v10 < (a0.size : Int) then (ixB a0 v10).bind fun v14 => (xie (v14.toNat : Int)).bind fun v17 => if (!v17) = true then some (.out (.inr false))
 else some (.nx (wr (v10 + 1)))
 else some (.out (.inl ()))
def xcf (a0 : ByteArray) : Option (Bool) := if (a0.size : Int) < 1 then some false
 else if 12 < (a0.size : Int) then some false
 else if a0 = (ByteArray.mk #[46]) then some false
 else if a0 = (ByteArray.mk #[46, 46]) then some false
 else (iter (x9e a0) big 0).bind fun o => (match o with
 | (.inl _) => some true
 | (.inr r) => some r)
def x0b := aI (aI (@EV) (@R3)) (aI (@R5) (@R9))
set_option maxHeartbeats 2000000 in
theorem x5q (a0 : ByteArray) (r : Bool) (hm0 : xcf a0 = some r) : Ok Tryd.prog 88 [str a0] (bool r) := by
 unfold xcf at hm0
 refine okG x3q ?_
 unfold xal
 rcases iteE hm0 with ⟨e2, hm0⟩ | ⟨e2, hm0⟩
 · obtain rfl := Option.some.inj hm0
   simp only [e2, x0b, ↓EVd, isCall, sevalprocAttr]
   all_goals first | done | rfl
 rcases iteE hm0 with ⟨e4, hm0⟩ | ⟨e4, hm0⟩
 · obtain rfl := Option.some.inj hm0
   simp only [e2, e4, x0b, ↓EVd, isCall, sevalprocAttr]
   all_goals first | done | rfl
 rcases iteE hm0 with ⟨e6, hm0⟩ | ⟨e6, hm0⟩
 · obtain rfl := Option.some.inj hm0
   simp only [e2, e4, e6, x0b, ↓EVd, isCall, sevalprocAttr]
   all_goals first | done | rfl
 rcases iteE hm0 with ⟨e8, hm0⟩ | ⟨e8, hm0⟩
 · obtain rfl := Option.some.inj hm0
   simp only [e2, e4, e6, e8, x0b, ↓EVd, isCall, sevalprocAttr]
   all_goals first | done | rfl
 obtain ⟨o0, ho0, hm0⟩ := bsE hm0
 simp only [e2, e4, e6, e8, x0b, ↓EVd, isCall, sevalprocAttr]
 refine cwp_cx 0 (fun s => (.inl ()) = o0) ?_ fun J0_0 hJ0_0 => ?_
 · rintro T0 H0 x11 rfl
   try dsimp only at hm0
   obtain rfl := Option.some.inj hm0
   simp only [e2, e4, e6, e8, x0b, ↓EVd, isCall, sevalprocAttr]
   all_goals first | done | rfl
 refine cwp_lp ho0 (fun v10 s => s.T 0 = str a0 ∧ s.T 3 = int v10) ?_ ?_
 · refine TI.here ⟨?_, ?_⟩
   all_goals try simp only [e2, e4, e6, e8, x0b, ↓EVd, isCall, sevalprocAttr]
   all_goals first | omega | exact lq (by omega) | exact nq (by omega) | rfl | (congr 1; omega)
 rintro I0 v10 T0 H0 x9 st0 kk0 hm1 hI0 hO0
 dsimp only [Lq, Nq] at kk0
 simp only [x9e] at hm1
 rcases iteE hm1 with ⟨e13, hm1⟩ | ⟨e13, hm1⟩
 · obtain ⟨v14, e16, hm1⟩ := ixBE hm1
   obtain ⟨v17, h18, hm1⟩ := bsE hm1
   simp only [kk0, e2, e4, e6, e8, e13, e16, x0b, ↓EVd, isCall, sevalprocAttr]
   refine qc (xdp _ _ h18) rfl ?_
   rcases itbE hm1 with ⟨e20, hm1⟩ | ⟨e20, hm1⟩
   · obtain rfl := Option.some.inj hm1
     obtain rfl := hO0 _ rfl
     try dsimp only at hm0
     obtain rfl := Option.some.inj hm0
     simp only [kk0, e2, e4, e6, e8, e13, e16, e20, x0b, ↓EVd, isCall, sevalprocAttr]
     all_goals first | done | rfl
   obtain rfl := Option.some.inj hm1
   simp only [kk0, e2, e4, e6, e8, e13, e16, e20, x0b, ↓EVd, isCall, sevalprocAttr]
   refine TI.here (hI0 _ rfl _ ⟨?_, ?_⟩)
   all_goals try simp only [kk0, e2, e4, e6, e8, e13, e16, e20, x0b, ↓EVd, isCall, sevalprocAttr]
   all_goals first | omega | exact lq (by omega) | exact nq (by omega) | rfl | (congr 1; omega)
 obtain rfl := Option.some.inj hm1
 simp only [kk0, e2, e4, e6, e8, e13, x0b, ↓EVd, isCall, sevalprocAttr]
 refine TI.here (hJ0_0 _ (hO0 _ rfl))
end Go.Proofs.YtefdlpandfhcgaaDoor.AL

/- Models of functions, and that the functions are as their models: written by gen.py. -/
set_option linter.all false
set_option maxRecDepth 100000
namespace Go.Proofs.YtefdlpandfhcgaaDoor.AL
open Go Go.Proofs
def x2p (a0 : Branch) (a1 : Int) : Option (Node) := if a1 < 1 then some (⟨0, 0, 0, 0, [], [], (⟨0, 0, xeb, (⟨0, 0, 0⟩ : Origin), 0⟩ : Attr)⟩ : Node)
 else if (a0.nodes.length : Int) < a1 then some (⟨0, 0, 0, 0, [], [], (⟨0, 0, xeb, (⟨0, 0, 0⟩ : Origin), 0⟩ : Attr)⟩ : Node)
 else (ix a0.nodes (wr (a1 - 1))).bind fun v5 => some v5
end Go.Proofs.YtefdlpandfhcgaaDoor.AL

/- Models of functions, and that the functions are as their models: written by gen.py. -/
set_option linter.all false
set_option maxRecDepth 100000
namespace Go.Proofs.YtefdlpandfhcgaaDoor.AL
open Go Go.Proofs
def xjf (a0 : Entry) : Option (Bool) := (xcf a0.name).bind fun v1 => some (!v1)
def xfo := aI (aI (@EV) (@R9)) (aI (@R51) (@DEntry))
set_option maxHeartbeats 2000000 in
theorem xht (a0 : Entry) (r : Bool) (hm0 : xjf a0 = some r) : Ok Tryd.prog 74 [xk a0] (bool r) := by
 unfold xjf at hm0
 refine okG xpu ?_
 unfold xco
 obtain ⟨v1, h2, hm0⟩ := bsE hm0
 simp only [xfo, ↓EVd, isCall, sevalprocAttr]
 refine qc (x5q _ _ h2) rfl ?_
 obtain rfl := Option.some.inj hm0
 simp only [xfo, ↓EVd, isCall, sevalprocAttr]
 all_goals first | done | rfl
def xrf (a0 : Node) : Int → Option (St (Int) ((Unit) ⊕ (Bool)))
 | v2 => if v2 < (a0.entries.length : Int) then (ix a0.entries v2).bind fun v6 => if v6.slot < 0 then some (.out (.inr false))
 else if 16 ≤ v6.slot then some (.out (.inr false))
 else if 0 < v2 then (ix a0.entries (wr (v2 - 1))).bind fun v15 => if v6.slot ≤ v15.slot then some (.out (.inr false))
 else some (.nx (wr (v2 + 1)))
 else some (.nx (wr (v2 + 1)))
 else some (.out (.inl ()))
def xne (a0 : Node) : Option (Bool) := (iter (xrf a0) big 0).bind fun o => (match o with
 | (.inl _) => if 0 ≤ a0.kind then if a0.kind ≤ 4 then if (-9007199254740992) ≤ a0.nlink then if a0.nlink ≤ 9007199254740992 then if 0 ≤ a0.attr.has then if a0.attr.has ≤ 31 then if (a0.data.length : Int) ≤ 300 then if (a0.entries.length : Int) ≤ 16 then if (a0.attr.redirect.size : Int) ≤ 40 then (x8f (fun z => xjf z ) a0.entries).bind fun v38 => some (!v38)
 else some false
 else some false
 else some false
 else some false
 else some false
 else some false
 else some false
 else some false
 else some false
 | (.inr r) => some r)
def xcb := aI (aI (aI (@EV) (aI (@R3) (@R5))) (aI (@R9) (aI (@R39) (@R40)))) (aI (aI (@R42) (aI (@R44) (@R51))) (aI (aI (@DOrigin) (@DNode)) (aI (@DEntry) (@mixed))))
set_option maxHeartbeats 2000000 in
theorem xjs (a0 : Node) (r : Bool) (hm0 : xne a0 = some r) : Ok Tryd.prog 52 [xd a0] (bool r) := by
 unfold xne at hm0
 refine okG xks ?_
 unfold xbm
 obtain ⟨o0, ho0, hm0⟩ := bsE hm0
 simp only [xcb, ↓EVd, isCall, sevalprocAttr]
 refine cwp_cx 0 (fun s => (s.T 1 = .loc 0 13 0 0 ∧ s.H 0 = some (.row 44 13 [xd a0]) ∧ Lq 0 s.nx) ∧ (.inl ()) = o0) ?_ fun J0_0 hJ0_0 => ?_
 · rintro T0 H0 x3 ⟨kk0_0, rfl⟩
   dsimp only [Lq, Nq] at kk0_0
   try dsimp only at hm0
   rcases iteE hm0 with ⟨e21, hm0⟩ | ⟨e21, hm0⟩
   · rcases iteE hm0 with ⟨e23, hm0⟩ | ⟨e23, hm0⟩
     · rcases iteE hm0 with ⟨e25, hm0⟩ | ⟨e25, hm0⟩
       · rcases iteE hm0 with ⟨e27, hm0⟩ | ⟨e27, hm0⟩
         · rcases iteE hm0 with ⟨e29, hm0⟩ | ⟨e29, hm0⟩
           · rcases iteE hm0 with ⟨e31, hm0⟩ | ⟨e31, hm0⟩
             · rcases iteE hm0 with ⟨e33, hm0⟩ | ⟨e33, hm0⟩
               · rcases iteE hm0 with ⟨e35, hm0⟩ | ⟨e35, hm0⟩
                 · have g40 := And.intro (And.intro (And.intro ((e21)) ((e23))) (And.intro ((e25)) ((e27)))) (And.intro (And.intro ((e29)) ((e31))) (And.intro ((e33)) ((e35))))
                   rcases iteE hm0 with ⟨e37, hm0⟩ | ⟨e37, hm0⟩
                   · obtain ⟨v38, h39, hm0⟩ := bsE hm0
                     simp only [kk0_0, g40, e37, xcb, ↓EVd, isCall, sevalprocAttr]
                     refine qc (xbj xme xaf xri xxi (fi := []) (ca := []) xk a0.entries (fun z => xjf z ) _ h39 (fun z b hz => xht z  b hz) (fun z => by simp only [CLO]) rfl (by simp only [CLO]) (fun z => by simp only [xcb, ↓EVd, isCall, sevalprocAttr])) rfl ?_
                     obtain rfl := Option.some.inj hm0
                     simp only [kk0_0, g40, e37, xcb, ↓EVd, isCall, sevalprocAttr]
                     all_goals first | done | rfl
                   obtain rfl := Option.some.inj hm0
                   simp only [kk0_0, g40, e37, xcb, ↓EVd, isCall, sevalprocAttr]
                   all_goals first | done | rfl
                 obtain rfl := Option.some.inj hm0
                 simp only [kk0_0, e21, e23, e25, e27, e29, e31, e33, e35, xcb, ↓EVd, isCall, sevalprocAttr]
                 all_goals first | done | rfl
               obtain rfl := Option.some.inj hm0
               simp only [kk0_0, e21, e23, e25, e27, e29, e31, e33, xcb, ↓EVd, isCall, sevalprocAttr]
               all_goals first | done | rfl
             obtain rfl := Option.some.inj hm0
             simp only [kk0_0, e21, e23, e25, e27, e29, e31, xcb, ↓EVd, isCall, sevalprocAttr]
             all_goals first | done | rfl
           obtain rfl := Option.some.inj hm0
           simp only [kk0_0, e21, e23, e25, e27, e29, xcb, ↓EVd, isCall, sevalprocAttr]
           all_goals first | done | rfl
         obtain rfl := Option.some.inj hm0
         simp only [kk0_0, e21, e23, e25, e27, xcb, ↓EVd, isCall, sevalprocAttr]
         all_goals first | done | rfl
       obtain rfl := Option.some.inj hm0
       simp only [kk0_0, e21, e23, e25, xcb, ↓EVd, isCall, sevalprocAttr]
       all_goals first | done | rfl
     obtain rfl := Option.some.inj hm0
     simp only [kk0_0, e21, e23, xcb, ↓EVd, isCall, sevalprocAttr]
     all_goals first | done | rfl
   obtain rfl := Option.some.inj hm0
   simp only [kk0_0, e21, xcb, ↓EVd, isCall, sevalprocAttr]
   all_goals first | done | rfl
 refine cwp_lp ho0 (fun v2 s => s.T 1 = .loc 0 13 0 0 ∧ s.T 6 = .sl 3 (a0.entries.map xk) ∧ s.T 7 = int (a0.entries.length : Int) ∧ s.T 8 = int v2 ∧ s.H 0 = some (.row 44 13 [xd a0]) ∧ Lq 0 s.nx) ?_ ?_
 · refine TI.here ⟨?_, ?_, ?_, ?_, ?_, ?_⟩
   all_goals try simp only [xcb, ↓EVd, isCall, sevalprocAttr]
   all_goals first | omega | exact lq (by omega) | exact nq (by omega) | rfl | (congr 1; omega)
 rintro I0 v2 T0 H0 x1 st0 kk0 hm1 hI0 hO0
 dsimp only [Lq, Nq] at kk0
 simp only [xrf] at hm1
 rcases iteE hm1 with ⟨e5, hm1⟩ | ⟨e5, hm1⟩
 · obtain ⟨v6, e8, hm1⟩ := ixE xk hm1
   rcases iteE hm1 with ⟨e10, hm1⟩ | ⟨e10, hm1⟩
   · obtain rfl := Option.some.inj hm1
     obtain rfl := hO0 _ rfl
     try dsimp only at hm0
     obtain rfl := Option.some.inj hm0
     simp only [kk0, e5, e8, e10, xcb, ↓EVd, isCall, sevalprocAttr]
     all_goals first | done | rfl
   rcases iteE hm1 with ⟨e12, hm1⟩ | ⟨e12, hm1⟩
   · obtain rfl := Option.some.inj hm1
     obtain rfl := hO0 _ rfl
     try dsimp only at hm0
     obtain rfl := Option.some.inj hm0
     simp only [kk0, e5, e8, e10, e12, xcb, ↓EVd, isCall, sevalprocAttr]
     all_goals first | done | rfl
   rcases iteE hm1 with ⟨e14, hm1⟩ | ⟨e14, hm1⟩
   · obtain ⟨v15, e17, hm1⟩ := ixE xk hm1
     rcases iteE hm1 with ⟨e19, hm1⟩ | ⟨e19, hm1⟩
     · obtain rfl := Option.some.inj hm1
       obtain rfl := hO0 _ rfl
       try dsimp only at hm0
       obtain rfl := Option.some.inj hm0
       simp only [kk0, e5, e8, e10, e12, e14, e17, e19, xcb, ↓EVd, isCall, sevalprocAttr]
       all_goals first | done | rfl
     obtain rfl := Option.some.inj hm1
     simp only [kk0, e5, e8, e10, e12, e14, e17, e19, xcb, ↓EVd, isCall, sevalprocAttr]
     refine TI.here (hI0 _ rfl _ ⟨?_, ?_, ?_, ?_, ?_, ?_⟩)
     all_goals try simp only [kk0, e5, e8, e10, e12, e14, e17, e19, xcb, ↓EVd, isCall, sevalprocAttr]
     all_goals first | omega | exact lq (by omega) | exact nq (by omega) | rfl | (congr 1; omega)
   obtain rfl := Option.some.inj hm1
   simp only [kk0, e5, e8, e10, e12, e14, xcb, ↓EVd, isCall, sevalprocAttr]
   refine TI.here (hI0 _ rfl _ ⟨?_, ?_, ?_, ?_, ?_, ?_⟩)
   all_goals try simp only [kk0, e5, e8, e10, e12, e14, xcb, ↓EVd, isCall, sevalprocAttr]
   all_goals first | omega | exact lq (by omega) | exact nq (by omega) | rfl | (congr 1; omega)
 obtain rfl := Option.some.inj hm1
 simp only [kk0, e5, xcb, ↓EVd, isCall, sevalprocAttr]
 refine TI.here (hJ0_0 _ ⟨⟨?_, ?_, ?_⟩, hO0 _ rfl⟩)
 all_goals try simp only [kk0, e5, xcb, ↓EVd, isCall, sevalprocAttr]
 all_goals first | omega | exact lq (by omega) | exact nq (by omega) | rfl | (congr 1; omega)
def xqc (a0 : Node) : Option (Bool) := (xne a0).bind fun v1 => some (!v1)
def x7i := aI (aI (@EV) (@R44)) (aI (@DOrigin) (aI (@DNode) (@DEntry)))
set_option maxHeartbeats 2000000 in
theorem xtn (a0 : Node) (r : Bool) (hm0 : xqc a0 = some r) : Ok Tryd.prog 51 [xd a0] (bool r) := by
 unfold xqc at hm0
 refine okG xwn ?_
 unfold x3i
 obtain ⟨v1, h2, hm0⟩ := bsE hm0
 simp only [x7i, ↓EVd, isCall, sevalprocAttr]
 refine qc (xjs _ _ h2) rfl ?_
 obtain rfl := Option.some.inj hm0
 simp only [x7i, ↓EVd, isCall, sevalprocAttr]
 all_goals first | done | rfl
def x0d (a0 : Branch) (a1 : Int) : Option (Bool) := if (a0.nodes.length : Int) ≤ a1 then (x8f (fun z => xqc z ) a0.nodes).bind fun v3 => some (!v3)
 else some false
def xbg := aI (aI (aI (@EV) (@R3)) (aI (@R32) (@R34))) (aI (aI (@R44) (@DOrigin)) (aI (@DBranch) (aI (@DNode) (@DEntry))))
set_option maxHeartbeats 2000000 in
theorem x3j (a0 : Branch) (a1 : Int) (r : Bool) (hm0 : x0d a0 a1 = some r) : Ok Tryd.prog 28 [xx a0, int a1] (bool r) := by
 unfold x0d at hm0
 refine okG xrp ?_
 unfold xlk
 rcases iteE hm0 with ⟨e2, hm0⟩ | ⟨e2, hm0⟩
 · obtain ⟨v3, h4, hm0⟩ := bsE hm0
   simp only [e2, xbg, ↓EVd, isCall, sevalprocAttr]
   refine qc (xbj x4e xsf xeg xcg (fi := []) (ca := []) xd a0.nodes (fun z => xqc z ) _ h4 (fun z b hz => xtn z  b hz) (fun z => by simp only [CLO]) rfl (by simp only [CLO]) (fun z => by simp only [xbg, ↓EVd, isCall, sevalprocAttr])) rfl ?_
   obtain rfl := Option.some.inj hm0
   simp only [e2, xbg, ↓EVd, isCall, sevalprocAttr]
   all_goals first | done | rfl
 obtain rfl := Option.some.inj hm0
 simp only [e2, xbg, ↓EVd, isCall, sevalprocAttr]
 all_goals first | done | rfl
def xvc (a0 : Branch) (a1 : Int) : Option (Bool) := (x0d a0 a1).bind fun v1 => some (!v1)
def xnj := aI (aI (@EV) (aI (@R3) (@R34))) (aI (aI (@DOrigin) (@DBranch)) (aI (@DNode) (@DEntry)))
set_option maxHeartbeats 2000000 in
theorem x9o (a0 : Branch) (a1 : Int) (r : Bool) (hm0 : xvc a0 a1 = some r) : Ok Tryd.prog 30 [xx a0, .ptr (int a1) 0] (bool r) := by
 unfold xvc at hm0
 refine okG x3o ?_
 unfold xwj
 obtain ⟨v1, h2, hm0⟩ := bsE hm0
 simp only [xnj, ↓EVd, isCall, sevalprocAttr]
 refine qc (x3j _ _ _ h2) rfl ?_
 obtain rfl := Option.some.inj hm0
 simp only [xnj, ↓EVd, isCall, sevalprocAttr]
 all_goals first | done | rfl
def xff (a0 : Stack) (a1 : Int) : Option (Bool) := if (a0.lowers.length : Int) ≤ 3 then (x0d a0.upper a1).bind fun v3 => if v3 = true then (x8f (fun z => xvc z a1) a0.lowers).bind fun v7 => some (!v7)
 else some false
 else some false
def xpd := aI (aI (aI (@EV) (@R3)) (aI (@R34) (aI (@R35) (@R37)))) (aI (aI (@DOrigin) (@DBranch)) (aI (@DStack) (aI (@DNode) (@DEntry))))
set_option maxHeartbeats 2000000 in
theorem xyq (a0 : Stack) (a1 : Int) (r : Bool) (hm0 : xff a0 a1 = some r) : Ok Tryd.prog 11 [xob a0, int a1] (bool r) := by
 unfold xff at hm0
 refine okG xdr ?_
 unfold xdl
 rcases iteE hm0 with ⟨e2, hm0⟩ | ⟨e2, hm0⟩
 · obtain ⟨v3, h4, hm0⟩ := bsE hm0
   simp only [e2, xpd, ↓EVd, isCall, sevalprocAttr]
   refine qc (x3j _ _ _ h4) rfl ?_
   rcases itbE hm0 with ⟨e6, hm0⟩ | ⟨e6, hm0⟩
   · obtain ⟨v7, h8, hm0⟩ := bsE hm0
     simp only [e2, e6, xpd, ↓EVd, isCall, sevalprocAttr]
     refine qcb (xbj xce xwe xsk xzh (fi := []) (ca := [.ptr (int a1) 0]) xx a0.lowers (fun z => xvc z a1) _ h8 (fun z b hz => x9o z a1 b hz) (fun z => by simp only [CLO]) rfl (by simp only [CLO]) (fun z => by simp only [xpd, ↓EVd, isCall, sevalprocAttr])) rfl (by simp only [e2, e6, FZ, CLO, xpd, ↓EVd, isCall, sevalprocAttr]) ?_
     obtain rfl := Option.some.inj hm0
     simp only [e2, e6, xpd, ↓EVd, isCall, sevalprocAttr]
     all_goals first | done | rfl
   obtain rfl := Option.some.inj hm0
   simp only [e2, e6, xpd, ↓EVd, isCall, sevalprocAttr]
   all_goals first | done | rfl
 obtain rfl := Option.some.inj hm0
 simp only [e2, xpd, ↓EVd, isCall, sevalprocAttr]
 all_goals first | done | rfl
end Go.Proofs.YtefdlpandfhcgaaDoor.AL

/- Models of functions, and that the functions are as their models: written by gen.py. -/
set_option linter.all false
set_option maxRecDepth 100000
namespace Go.Proofs.YtefdlpandfhcgaaDoor.AL
open Go Go.Proofs
end Go.Proofs.YtefdlpandfhcgaaDoor.AL

/- Plain laws: the guard of chapter 16's statements. -/
set_option linter.all false
namespace Go.Proofs.YtefdlpandfhcgaaDoor.AL
open Go Go.Proofs
theorem xkx (n : Int) : ∃ r, xie n = some r := by
  unfold xie
  repeat' split
  all_goals exact ⟨_, rfl⟩
theorem xi0 (s : ByteArray) : ∃ r, xcf s = some r := by
  unfold xcf
  by_cases h1 : (s.size : Int) < 1
  · rw [if_pos h1]; exact ⟨_, rfl⟩
  rw [if_neg h1]
  by_cases h2 : 12 < (s.size : Int)
  · rw [if_pos h2]; exact ⟨_, rfl⟩
  rw [if_neg h2]
  split
  · exact ⟨_, rfl⟩
  split
  · exact ⟨_, rfl⟩
  obtain ⟨r, h3, _⟩ := x6l (B := x9e s) (R := fun _ => True) (fun i t => t = (i : Int) ∧ i ≤ s.size) s.size (by
    rintro i t ⟨rfl, hi⟩
    refine ⟨hi, ?_⟩
    simp only [x9e]
    by_cases hlt : i < s.size
    · rw [if_pos (by omega)]
      have hx : ixB s (i : Int) = some s[i] := by
        unfold ixB
        rw [if_pos (by omega)]
        simp [hlt]
      rw [hx]
      simp only [Option.bind_some]
      obtain ⟨r, hr⟩ := xkx (s[i].toNat : Int)
      rw [hr]
      simp only [Option.bind_some]
      split
      · exact .inr ⟨_, rfl, trivial⟩
      · rw [wr_suc (by omega)]
        exact .inl ⟨_, rfl, rfl, by omega⟩
    · rw [if_neg (by omega)]
      exact .inr ⟨_, rfl, trivial⟩) big 0 0 ⟨rfl, by omega⟩ (by rw [big_eq]; omega)
  rw [h3]
  cases r with
  | inl u => exact ⟨_, rfl⟩
  | inr r => exact ⟨_, rfl⟩
theorem xe6 (e : Entry) : ∃ r, xjf e = some r := by
  unfold xjf
  obtain ⟨r, hr⟩ := xi0 e.name
  rw [hr]
  exact ⟨_, rfl⟩
structure NB (x : Node) : Prop where
  ents : x.entries.length ≤ 16
  has0 : 0 ≤ x.attr.has
  has1 : x.attr.has ≤ 31
theorem xmr (x : Node) : ∃ r, xne x = some r ∧ (r = true → NB x ∧ x.data.length ≤ 300) := by
  unfold xne
  obtain ⟨r, h3, h4⟩ := x6l (B := xrf x) (R := fun r => match r with | .inl _ => True | .inr r => r = false) (fun i t => t = (i : Int) ∧ i ≤ x.entries.length ∧ ∀ (h : 0 < i) (h' : i - 1 < x.entries.length), (i : Int) - 1 ≤ x.entries[i - 1].slot ∧ x.entries[i - 1].slot < 16) 16 (by
    rintro i t ⟨rfl, hi, hp⟩
    refine ⟨?_, ?_⟩
    · by_cases h0 : 0 < i
      · have := hp h0 (by omega); omega
      · omega
    simp only [xrf]
    by_cases hlt : i < x.entries.length
    · have hi16 : i ≤ 16 := by
        by_cases h0 : 0 < i
        · have := hp h0 (by omega); omega
        · omega
      rw [if_pos (by omega), ix_at hlt]
      simp only [Option.bind_some]
      by_cases c1 : x.entries[i].slot < 0
      · rw [if_pos c1]; exact .inr ⟨_, rfl, rfl⟩
      rw [if_neg c1]
      by_cases c2 : 16 ≤ x.entries[i].slot
      · rw [if_pos c2]; exact .inr ⟨_, rfl, rfl⟩
      rw [if_neg c2]
      by_cases c3 : 0 < i
      · have hw : wr ((i : Int) - 1) = ((i - 1 : Nat) : Int) := by rw [wr_in (by omega) (by omega)]; omega
        have hlt' : i - 1 < x.entries.length := by omega
        rw [if_pos (by omega), hw, ix_at hlt']
        simp only [Option.bind_some]
        by_cases c4 : x.entries[i].slot ≤ x.entries[i - 1].slot
        · rw [if_pos c4]; exact .inr ⟨_, rfl, rfl⟩
        · rw [if_neg c4, wr_suc (by omega)]
          refine .inl ⟨_, rfl, rfl, by omega, fun h h' => ?_⟩
          have := hp c3 hlt'
          simp only [Nat.add_sub_cancel]
          omega
      · rw [if_neg (by omega), wr_suc (by omega)]
        refine .inl ⟨_, rfl, rfl, by omega, fun h h' => ?_⟩
        simp only [Nat.add_sub_cancel]
        omega
    · rw [if_neg (by omega)]
      exact .inr ⟨_, rfl, trivial⟩) big 0 0 ⟨rfl, by omega, fun h => by omega⟩ (by rw [big_eq]; omega)
  rw [h3]
  cases r with
  | inr r => simp only at h4; subst h4; exact ⟨_, rfl, fun h => by cases h⟩
  | inl u =>
    simp only [Option.bind_some]
    repeat' (first
      | exact ⟨_, rfl, fun h => by cases h⟩
      | split)
    rename_i c1 c2 c3 c4 c5 c6 c7 c8 c9
    obtain ⟨f, hf⟩ := xqq xe6
    rw [x5i (f := f) x.entries (fun y _ => hf y) (by omega)]
    exact ⟨_, rfl, fun _ => ⟨⟨by omega, c5, c6⟩, by omega⟩⟩
theorem x30 (x : Node) : ∃ r, xne x = some r ∧ (r = true → NB x) := by
  obtain ⟨r, h1, h2⟩ := xmr x
  exact ⟨r, h1, fun h => (h2 h).1⟩
theorem x7j (b : Branch) (k : Int) (hk : k ≤ 1000) : ∃ r, x0d b k = some r ∧ (r = true → (b.nodes.length : Int) ≤ k ∧ ∀ x ∈ b.nodes, NB x ∧ x.data.length ≤ 300) := by
  unfold x0d
  by_cases h : (b.nodes.length : Int) ≤ k
  · rw [if_pos h]
    have ht : ∀ x, ∃ r, xqc x = some r := fun x => by
      obtain ⟨r, h1, _⟩ := x30 x
      unfold xqc
      rw [h1]
      exact ⟨_, rfl⟩
    obtain ⟨f, hf⟩ := xqq ht
    rw [x5i (f := f) b.nodes (fun y _ => hf y) (by omega)]
    refine ⟨_, rfl, fun hr => ⟨by omega, fun x hx => ?_⟩⟩
    have hx' : f x = false := by
      simp only [Bool.not_eq_true', List.any_eq_false] at hr
      simpa using hr x hx
    obtain ⟨r, h1, h2⟩ := xmr x
    have := hf x
    unfold xqc at this
    rw [h1, hx'] at this
    simp only [Option.bind_some, Option.some.injEq, Bool.not_eq_false'] at this
    exact h2 this
  · rw [if_neg h]
    exact ⟨_, rfl, fun h => by cases h⟩
structure SB (s : Stack) : Prop where
  low : s.lowers.length ≤ 3
  up : s.upper.nodes.length ≤ 24 ∧ ∀ x ∈ s.upper.nodes, NB x
  lows : ∀ b ∈ s.lowers, b.nodes.length ≤ 24 ∧ ∀ x ∈ b.nodes, NB x
structure SD (s : Stack) (k : Int) : Prop where
  few : (s.upper.nodes.length : Int) ≤ k
  data : ∀ x ∈ s.upper.nodes, x.data.length ≤ 300
  datas : ∀ b ∈ s.lowers, (b.nodes.length : Int) ≤ k ∧ ∀ x ∈ b.nodes, x.data.length ≤ 300
theorem xiw (s : Stack) (k : Int) (hk : k ≤ 24) : ∃ r, xff s k = some r ∧ (r = true → SB s ∧ SD s k) := by
  unfold xff
  by_cases h : (s.lowers.length : Int) ≤ 3
  · rw [if_pos h]
    obtain ⟨r, h1, h2⟩ := x7j s.upper k (by omega)
    rw [h1]
    simp only [Option.bind_some]
    cases r with
    | false => exact ⟨false, by simp, fun h => by cases h⟩
    | true =>
      rw [if_pos rfl]
      have ht : ∀ x, ∃ r, xvc x k = some r := fun x => by
        obtain ⟨r, h1, _⟩ := x7j x k (by omega)
        unfold xvc
        rw [h1]
        exact ⟨_, rfl⟩
      obtain ⟨f, hf⟩ := xqq ht
      rw [x5i (f := f) s.lowers (fun y _ => hf y) (by omega)]
      refine ⟨_, rfl, fun hr => ?_⟩
      have hu := h2 rfl
      have hl : ∀ x ∈ s.lowers, (x.nodes.length : Int) ≤ k ∧ ∀ y ∈ x.nodes, NB y ∧ y.data.length ≤ 300 := fun x hx => by
        have hx' : f x = false := by
          simp only [Bool.not_eq_true', List.any_eq_false] at hr
          simpa using hr x hx
        obtain ⟨r, h1, h2⟩ := x7j x k (by omega)
        have := hf x
        unfold xvc at this
        rw [h1, hx'] at this
        simp only [Option.bind_some, Option.some.injEq, Bool.not_eq_false'] at this
        exact h2 this
      exact ⟨⟨by omega, ⟨by omega, fun x hx => (hu.2 x hx).1⟩, fun b hb => ⟨by have := (hl b hb).1; omega, fun x hx => ((hl b hb).2 x hx).1⟩⟩, ⟨hu.1, fun x hx => (hu.2 x hx).2, fun b hb => ⟨(hl b hb).1, fun x hx => ((hl b hb).2 x hx).2⟩⟩⟩
  · rw [if_neg h]
    exact ⟨_, rfl, fun h => by cases h⟩
end Go.Proofs.YtefdlpandfhcgaaDoor.AL

/- Plain laws, part 0: nodes. -/
set_option linter.all false
namespace Go.Proofs.YtefdlpandfhcgaaDoor.AL
open Go Go.Proofs
def xwb : Node := ⟨0, 0, 0, 0, [], [], ⟨0, 0, xeb, ⟨0, 0, 0⟩, 0⟩⟩
def nodeP (b : Branch) (ino : Int) : Node := if ino < 1 then xwb else if (b.nodes.length : Int) < ino then xwb else (b.nodes[(ino - 1).toNat]?).getD xwb
structure PB (b : Branch) : Prop where
  len : b.nodes.length ≤ 24
  ents : ∀ x ∈ b.nodes, x.entries.length ≤ 16
theorem at_eq {b : Branch} (hb : PB b) (ino : Int) : x2p b ino = some (nodeP b ino) := by
  unfold x2p nodeP
  split
  · rfl
  · split
    · rfl
    · rename_i h1 h2
      have := hb.len
      rw [wr_in (by omega) (by omega), ix_of (by omega) (by omega)]
      have hlt : (ino - 1).toNat < b.nodes.length := by omega
      simp only [Option.bind_some, List.getElem?_eq_getElem hlt, Option.getD_some]
theorem x3k {b : Branch} (hb : PB b) (ino : Int) : (nodeP b ino).entries.length ≤ 16 := by
  unfold nodeP
  split
  · simp [xwb]
  · split
    · simp [xwb]
    · rename_i h1 h2
      have hlt : (ino - 1).toNat < b.nodes.length := by omega
      simp only [List.getElem?_eq_getElem hlt, Option.getD_some]
      exact hb.ents _ (List.getElem_mem hlt)
theorem x5g {b : Branch} {ino : Int} (h : (nodeP b ino).kind = 1) : 1 ≤ ino ∧ ino ≤ (b.nodes.length : Int) := by
  unfold nodeP at h
  split at h
  · simp [xwb] at h
  · split at h
    · simp [xwb] at h
    · omega
end Go.Proofs.YtefdlpandfhcgaaDoor.AL

