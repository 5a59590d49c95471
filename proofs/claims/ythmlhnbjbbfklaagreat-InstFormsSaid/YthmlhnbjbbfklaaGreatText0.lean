/-
 InstForms: compiled functions: printed by a program of the workbench; the kernel checks each against the model's code.
-/
import Derived.Test.YthmlhnbjbbfklaaGreatPack4
set_option linter.unusedSimpArgs false
set_option linter.unusedVariables false
set_option linter.unusedSectionVars false
set_option linter.unnecessarySimpa false
namespace Ab
def c108 : CFn := ⟨sq ([
oo 2 (.mv (.k (.d .np)))]) (
sq ([
om 3 0,
oo 4 (.build [(.nil 1), (.d (.i .i64 0))] [(0, 1, .t 3)]),
oo 5 (.box (.t 4)),
om 2 5]) (
.ret)), [.slot 2]⟩
def n108 : Notes := { anns := [], frz := [], rgs := [] }
def c111 : CFn := ⟨sq ([
oo 1 (.box (.t 0)),
oo 2 (.mv (kb false))]) (
sq ([
ol 3 true 4 1,
oo 4 (.call 112 [.t 3] 0 true),
ob 5 .leq (.t 4) (ki 60),
om 6 5,
og 7 (.ld true 4 (.t 1)) 6,
og 8 (.call 125 [.t 7] 0 true) 6,
oo 9 (.pick (.t 6) (.t 8) (kb false)),
om 2 9]) (
.ret)), [.slot 2]⟩
def n111 : Notes := { anns := [], frz := [], rgs := [] }
def c112 : CFn := ⟨sq ([
oo 1 (.box (.t 0)),
oo 2 (.mv (ki 0))]) (
sq ([
oo 6 (fa 2 1),
ol 7 false 1 6,
oo 8 (.len 1 (.t 7)),
ob 9 .quo (.t 8) (ki 16),
ob 10 .add (ki 1) (.t 9),
om 3 10]) (
.seq (sq ([
oo 11 (fa 3 1),
ol 12 false 1 11,
oo 13 (.len 0 (.t 12)),
oo 14 (.mv (ki 0))]) (
.block 0 (.loop ⟨[3, 12, 13, 14], [], [], [], [], true⟩ (sq ([
ob 15 .lss (.t 14) (.t 13)]) (
.seq (ct 15 (
.skip) (.exit 0)) (
.seq (.block 1 (sq ([
oo 16 (.ia 4 (.t 12) (.t 14)),
ol 17 true 4 16,
oo 5 (.zero (.agg zV)),
oz (.st 4 (.t 5) (.t 17)) 0]) (
.region false [
om 18 3,
ol 19 true 4 5,
oo 20 (.call 112 [.t 19] 0 true),
ob 21 .add (.t 18) (.t 20),
om 3 21]))) (
.region false [
ob 22 .add (.t 14) (ki 1),
om 14 22]))))))) (
sq ([
om 23 3,
om 2 23]) (
.ret)))), [.slot 2]⟩
def n112 : Notes := { anns := [⟨[3, 12, 13, 14], [], [], [], [], true⟩], frz := [], rgs := [] }
def c114 : CFn := ⟨sq ([
oo 2 (.box (.t 0)),
oo 3 (.box (.t 1)),
oo 4 (.mv (ki 0))]) (
.seq (.region true [
oo 5 (fa 0 2),
ow 6 (.ld false 1 (.t 5)) 1,
oo 7 (fa 0 3),
ow 8 (.ld false 1 (.t 7)) 4,
ow 9 (.call 127 [.t 6, .t 8] 0 true) 15,
oo 10 (fa 1 2),
ow 11 (.ld false 1 (.t 10)) 32,
oo 12 (fa 1 3),
ow 13 (.ld false 1 (.t 12)) 128,
ow 14 (.call 128 [.t 11, .t 13] 0 true) 511,
oo 15 (fa 2 2),
ow 16 (.ld false 1 (.t 15)) 1024,
oo 17 (fa 2 3),
ow 18 (.ld false 1 (.t 17)) 4096,
ow 19 (.call 129 [.t 16, .t 18] 0 true) 16383,
oo 20 (fa 3 2),
ow 21 (.ld false 1 (.t 20)) 32768,
oo 22 (fa 3 3),
ow 23 (.ld false 1 (.t 22)) 131072,
ow 24 (.call 130 [.t 21, .t 23, (.k (.d (.f 114 [] [])))] 4 true) 524287,
ow 25 (.bsl 1 4 [(.i .i64 0)] [(0, .t 9), (1, .t 14), (2, .t 19), (3, .t 24)]) 1048575,
ow 26 (.call 126 [.t 25] 0 true) 2097151,
ow 4 (.mv (.t 26)) 4194303]) (
.ret)), [.slot 4]⟩
def n114 : Notes := { anns := [], frz := [], rgs := [] }
def c123 : CFn := ⟨sq ([
oo 4 (.mv (ki 0))]) (
.seq (.seq (.region true [
om 5 0,
ow 6 (.nilc (.t 5)) 1,
ow 7 (fa 1 6) 3,
ow 8 (.ld false 1 (.t 7)) 7,
om 9 0,
ow 10 (.nilc (.t 9)) 16,
ow 11 (fa 0 10) 48,
ow 12 (.ld false 1 (.t 11)) 112,
ow 13 (.len 0 (.t 12)) 240,
ow 14 (.bin .geq (.t 8) (.t 13)) 511]) (
ct 14 (
sq ([
oo 4 (.mv (ki 0))]) (
.ret)) (.skip))) (
sq ([
om 15 0,
oo 16 (.nilc (.t 15)),
oo 17 (fa 1 16),
ol 18 false 1 17,
ob 19 .add (.t 18) (ki 1),
oo 20 (.nilc (.t 15)),
oo 21 (fa 1 20),
oz (.st 1 (.t 21) (.t 19)) 0]) (
.seq (.region true [
om 22 0,
ow 23 (.nilc (.t 22)) 1,
ow 24 (fa 0 23) 3,
ow 25 (.ld false 1 (.t 24)) 7,
om 26 0,
ow 27 (.nilc (.t 26)) 16,
ow 28 (fa 1 27) 48,
ow 29 (.ld false 1 (.t 28)) 112,
ow 30 (.bin .sub (.t 29) (ki 1)) 240,
ow 31 (.ia 1 (.t 25) (.t 30)) 511,
ow 32 (.ld false 1 (.t 31)) 1023,
ow 33 (.conv .i64 (.t 32)) 2047,
om 34 1,
ow 35 (.bin .rem (.t 33) (.t 34)) 8191,
ow 4 (.mv (.t 35)) 16383]) (
.ret)))), [.slot 4]⟩
def n123 : Notes := { anns := [], frz := [], rgs := [] }
def c125 : CFn := ⟨sq ([
oo 1 (.box (.t 0)),
oo 2 (.mv (kb false))]) (
.seq (sq ([
oo 3 (fa 0 1),
ol 4 false 1 3,
ob 5 .lss (.t 4) (ki 1),
om 6 5,
oh 7 (fa 0 1) 6,
oh 8 (.ld false 1 (.t 7)) 6,
oh 9 (.bin .gtr (.t 8) (ki 7)) 6,
oo 10 (.pick (.t 6) (kb true) (.t 9)),
om 11 10,
oh 12 (.ld true 4 (.t 1)) 11,
oh 13 (.call 139 [.t 12] 0 true) 11,
oh 14 (.un .not (.t 13)) 11,
oo 15 (.pick (.t 11) (kb true) (.t 14)),
om 16 15,
oh 17 (fa 0 1) 16,
oh 18 (.ld false 1 (.t 17)) 16,
oh 19 (.bin .neq (.t 18) (ki 3)) 16,
oh 20 (.mv (.t 19)) 16,
og 21 (fa 2 1) 20,
og 22 (.ld false 1 (.t 21)) 20,
og 23 (.bin .neq (.t 22) (.k (.d (.s [])))) 20,
oh 24 (.pick (.t 20) (.t 23) (kb false)) 16,
oo 25 (.pick (.t 16) (kb true) (.t 24)),
om 26 25,
oh 27 (.ld true 4 (.t 1)) 26,
oh 28 (.call 140 [.t 27] 0 true) 26,
oh 29 (.un .not (.t 28)) 26,
oo 30 (.pick (.t 26) (kb true) (.t 29))]) (
ct 30 (
sq ([
oo 2 (.mv (kb false))]) (
.ret)) (.skip))) (
sq ([
oo 31 (fa 3 1),
ol 32 false 1 31,
oo 33 (.call 141 [.t 32, (.k (.d (.f 142 [] [])))] 4 true),
oo 34 (.un .not (.t 33)),
om 2 34]) (
.ret))), [.slot 2]⟩
def n125 : Notes := { anns := [], frz := [], rgs := [] }
def c126 : CFn := ⟨sq ([
oo 2 (.mv (ki 0))]) (
sq ([
oo 3 (.mv (ki 0))]) (
.seq (sq ([
om 6 0,
oo 7 (.len 0 (.t 6)),
oo 8 (.mv (ki 0))]) (
.block 0 (.loop ⟨[3, 6, 7, 8], [], [], [], [], true⟩ (sq ([
ob 9 .lss (.t 8) (.t 7)]) (
.seq (ct 9 (
.skip) (.exit 0)) (
.seq (.block 1 (sq ([
oo 10 (.ia 1 (.t 6) (.t 8)),
ol 11 false 1 10,
om 5 11]) (
sq ([
om 12 5,
om 13 3,
ob 14 .neq (.t 12) (.t 13)]) (
ct 14 (
sq ([
om 15 5,
om 2 15]) (
.ret)) (.skip))))) (
.region false [
ob 16 .add (.t 8) (ki 1),
om 8 16]))))))) (
sq ([
om 17 3,
om 2 17]) (
.ret)))), [.slot 2]⟩
def n126 : Notes := { anns := [⟨[3, 6, 7, 8], [], [], [], [], true⟩], frz := [], rgs := [] }
def c127 : CFn := ⟨sq ([
oo 4 (.mv (ki 0))]) (
sq ([
om 7 0,
oo 8 (.call 143 [.t 7] 0 true),
om 5 8]) (
sq ([
om 9 1,
oo 10 (.call 143 [.t 9] 0 true),
om 6 10]) (
.seq (sq ([
om 11 5]) (
ct 11 (
.seq (sq ([
om 12 6]) (
ct 12 (
sq ([
oo 4 (.mv (ki 0))]) (
.ret)) (.skip))) (
sq ([
oo 4 (.mv (.k (.d (.i .i64 (-1)))))]) (
.ret))) (.skip))) (
.seq (sq ([
om 13 6]) (
ct 13 (
sq ([
oo 4 (.mv (ki 1))]) (
.ret)) (.skip))) (
.seq (sq ([
om 14 0,
om 15 1,
ob 16 .lss (.t 14) (.t 15)]) (
ct 16 (
sq ([
oo 4 (.mv (.k (.d (.i .i64 (-1)))))]) (
.ret)) (.skip))) (
.seq (sq ([
om 17 0,
om 18 1,
ob 19 .gtr (.t 17) (.t 18)]) (
ct 19 (
sq ([
oo 4 (.mv (ki 1))]) (
.ret)) (.skip))) (
sq ([
oo 4 (.mv (ki 0))]) (
.ret)))))))), [.slot 4]⟩
def n127 : Notes := { anns := [], frz := [], rgs := [] }
def c128 : CFn := ⟨sq ([
oo 4 (.mv (ki 0))]) (
sq ([
om 7 0,
oo 8 (.call 144 [.t 7] 0 true),
om 5 8]) (
sq ([
om 9 1,
oo 10 (.call 144 [.t 9] 0 true),
om 6 10]) (
.seq (sq ([
om 11 5]) (
ct 11 (
.seq (sq ([
om 12 6]) (
ct 12 (
sq ([
oo 4 (.mv (ki 0))]) (
.ret)) (.skip))) (
sq ([
oo 4 (.mv (.k (.d (.i .i64 (-1)))))]) (
.ret))) (.skip))) (
.seq (sq ([
om 13 6]) (
ct 13 (
sq ([
oo 4 (.mv (ki 1))]) (
.ret)) (.skip))) (
.seq (sq ([
om 14 0,
om 15 1,
ob 16 .lss (.t 14) (.t 15)]) (
ct 16 (
sq ([
oo 4 (.mv (.k (.d (.i .i64 (-1)))))]) (
.ret)) (.skip))) (
.seq (sq ([
om 17 0,
om 18 1,
ob 19 .gtr (.t 17) (.t 18)]) (
ct 19 (
sq ([
oo 4 (.mv (ki 1))]) (
.ret)) (.skip))) (
sq ([
oo 4 (.mv (ki 0))]) (
.ret)))))))), [.slot 4]⟩
def n128 : Notes := { anns := [], frz := [], rgs := [] }
def c129 : CFn := ⟨sq ([
oo 4 (.mv (ki 0))]) (
sq ([
om 7 0,
oo 8 (.call 145 [.t 7] 0 true),
om 5 8]) (
sq ([
om 9 1,
oo 10 (.call 145 [.t 9] 0 true),
om 6 10]) (
.seq (sq ([
om 11 5]) (
ct 11 (
.seq (sq ([
om 12 6]) (
ct 12 (
sq ([
oo 4 (.mv (ki 0))]) (
.ret)) (.skip))) (
sq ([
oo 4 (.mv (.k (.d (.i .i64 (-1)))))]) (
.ret))) (.skip))) (
.seq (sq ([
om 13 6]) (
ct 13 (
sq ([
oo 4 (.mv (ki 1))]) (
.ret)) (.skip))) (
.seq (sq ([
om 14 0,
om 15 1,
ob 16 .lss (.t 14) (.t 15)]) (
ct 16 (
sq ([
oo 4 (.mv (.k (.d (.i .i64 (-1)))))]) (
.ret)) (.skip))) (
.seq (sq ([
om 17 0,
om 18 1,
ob 19 .gtr (.t 17) (.t 18)]) (
ct 19 (
sq ([
oo 4 (.mv (ki 1))]) (
.ret)) (.skip))) (
sq ([
oo 4 (.mv (ki 0))]) (
.ret)))))))), [.slot 4]⟩
def n129 : Notes := { anns := [], frz := [], rgs := [] }
def c130 : CFn := ⟨sq ([
oo 6 (.mv (ki 0))]) (
.seq (sq ([
om 11 0,
oo 12 (.len 0 (.t 11)),
oo 13 (.mv (ki 0))]) (
.block 0 (.loop ⟨[0, 1, 2, 11, 12, 13], [], [], [], [], true⟩ (sq ([
ob 14 .lss (.t 13) (.t 12)]) (
.seq (ct 14 (
.skip) (.exit 0)) (
.seq (.block 1 (sq ([
om 15 13,
oo 16 (.ia 4 (.t 11) (.t 13)),
ol 17 true 4 16,
oo 8 (.zero (.agg zV)),
om 7 15,
oz (.st 4 (.t 8) (.t 17)) 0]) (
.seq (sq ([
om 18 7,
om 19 1,
oo 20 (.len 0 (.t 19)),
ob 21 .geq (.t 18) (.t 20)]) (
ct 21 (
sq ([
oo 6 (.mv (ki 1))]) (
.ret)) (.skip))) (
sq ([
om 22 1,
om 23 7,
oo 24 (.ia 4 (.t 22) (.t 23)),
ol 25 true 4 24,
oo 9 (.zero (.agg zV)),
oz (.st 4 (.t 9) (.t 25)) 0]) (
sq ([
om 26 2,
ol 27 true 4 8,
ol 28 true 4 9,
oo 29 (.callv (.t 26) [.t 27, .t 28] 4 true),
om 10 29]) (
sq ([
om 30 10,
ob 31 .neq (.t 30) (ki 0)]) (
ct 31 (
sq ([
om 32 10,
om 6 32]) (
.ret)) (.skip)))))))) (
.region false [
ob 33 .add (.t 13) (ki 1),
om 13 33]))))))) (
.seq (sq ([
om 34 0,
oo 35 (.len 0 (.t 34)),
om 36 1,
oo 37 (.len 0 (.t 36)),
ob 38 .lss (.t 35) (.t 37)]) (
ct 38 (
sq ([
oo 6 (.mv (.k (.d (.i .i64 (-1)))))]) (
.ret)) (.skip))) (
sq ([
oo 6 (.mv (ki 0))]) (
.ret)))), [.slot 6]⟩
def n130 : Notes := { anns := [⟨[0, 1, 2, 11, 12, 13], [], [], [], [], true⟩], frz := [], rgs := [] }
def c137 : CFn := ⟨sq ([
oo 1 (.box (.t 0)),
oo 2 (.mv (.k (.d (.s []))))]) (
.seq (sq ([
oo 3 (fa 3 1),
ol 4 false 1 3,
oo 5 (.len 0 (.t 4)),
ob 6 .eql (.t 5) (ki 0)]) (
ct 6 (
sq ([
oo 2 (.mv (.k (.d (.s []))))]) (
.ret)) (.skip))) (
sq ([
oo 7 (fa 3 1),
ol 8 false 1 7,
oo 9 (.ia 4 (.t 8) (ki 0)),
oo 10 (fa 2 9),
ol 11 false 1 10,
om 2 11]) (
.ret))), [.slot 2]⟩
def n137 : Notes := { anns := [], frz := [], rgs := [] }
def c139 : CFn := ⟨sq ([
oo 1 (.box (.t 0)),
oo 2 (.mv (kb false))]) (
.seq (sq ([
oo 3 (fa 0 1),
ol 4 false 1 3]) (
.block 0 (sq ([
ob 6 .eql (.t 4) (ki 1),
om 5 6]) (
ct 5 (
sq ([
oo 2 (.mv (kb true))]) (
.ret)) (sq ([
ob 8 .eql (.t 4) (ki 2),
om 7 8]) (
ct 7 (
sq ([
oo 9 (fa 1 1),
ol 10 false 1 9,
ob 11 .eql (.t 10) (ki 0),
om 12 11,
oh 13 (fa 1 1) 12,
oh 14 (.ld false 1 (.t 13)) 12,
oh 15 (.bin .eql (.t 14) (ki 1)) 12,
oo 16 (.pick (.t 12) (kb true) (.t 15)),
om 2 16]) (
.ret)) (sq ([
ob 18 .eql (.t 4) (ki 7),
om 17 18]) (
ct 17 (
sq ([
oo 19 (fa 1 1),
ol 20 false 1 19,
ob 21 .geq (.t 20) (ki 1),
om 22 21,
og 23 (fa 1 1) 22,
og 24 (.ld false 1 (.t 23)) 22,
og 25 (.bin .leq (.t 24) (ki 13)) 22,
oo 26 (.pick (.t 22) (.t 25) (kb false)),
om 2 26]) (
.ret)) (.skip))))))))) (
sq ([
oo 27 (fa 1 1),
ol 28 false 1 27,
ob 29 .eql (.t 28) (ki 0),
om 2 29]) (
.ret))), [.slot 2]⟩
def n139 : Notes := { anns := [], frz := [], rgs := [] }
def c140 : CFn := ⟨sq ([
oo 1 (.box (.t 0)),
oo 2 (.mv (kb false))]) (
.seq (sq ([
oo 3 (fa 0 1),
ol 4 false 1 3]) (
.block 0 (sq ([
ob 6 .eql (.t 4) (ki 4),
om 5 6]) (
ct 5 (
sq ([
oo 2 (.mv (kb true))]) (
.ret)) (sq ([
ob 8 .eql (.t 4) (ki 5),
om 7 8]) (
ct 7 (
sq ([
oo 9 (fa 3 1),
ol 10 false 1 9,
oo 11 (.call 151 [.t 10, (.k (.d (.f 114 [] [])))] 4 true),
om 2 11]) (
.ret)) (sq ([
ob 13 .eql (.t 4) (ki 6),
om 12 13]) (
ct 12 (
sq ([
oo 14 (fa 3 1),
ol 15 false 1 14,
oo 16 (.call 141 [.t 15, (.k (.d (.f 152 [] [])))] 4 true),
oo 17 (.un .not (.t 16)),
om 18 17,
og 19 (fa 3 1) 18,
og 20 (.ld false 1 (.t 19)) 18,
og 21 (.call 151 [.t 20, (.k (.d (.f 154 [] [])))] 4 true) 18,
oo 22 (.pick (.t 18) (.t 21) (kb false)),
om 2 22]) (
.ret)) (.skip))))))))) (
sq ([
oo 23 (fa 3 1),
ol 24 false 1 23,
oo 25 (.len 0 (.t 24)),
ob 26 .eql (.t 25) (ki 0),
om 2 26]) (
.ret))), [.slot 2]⟩
def n140 : Notes := { anns := [], frz := [], rgs := [] }
def c141 : CFn := ⟨sq ([
oo 4 (.mv (kb false))]) (
sq ([
om 5 0,
om 6 1,
oo 7 (.call 155 [.t 5, .t 6] 4 true),
ob 8 .geq (.t 7) (ki 0),
om 4 8]) (
.ret)), [.slot 4]⟩
def n141 : Notes := { anns := [], frz := [], rgs := [] }
def c142 : CFn := ⟨sq ([
oo 1 (.box (.t 0)),
oo 2 (.mv (kb false))]) (
sq ([
oo 3 (fa 0 1),
ol 4 false 1 3,
ob 5 .eql (.t 4) (ki 7),
om 6 5,
oh 7 (.ld true 4 (.t 1)) 6,
oh 8 (.call 125 [.t 7] 0 true) 6,
oh 9 (.un .not (.t 8)) 6,
oo 10 (.pick (.t 6) (kb true) (.t 9)),
om 2 10]) (
.ret)), [.slot 2]⟩
def n142 : Notes := { anns := [], frz := [], rgs := [] }
def c143 : CFn := ⟨sq ([
oo 2 (.mv (kb false))]) (
sq ([
om 3 0,
om 4 0,
ob 5 .neq (.t 3) (.t 4),
om 2 5]) (
.ret)), [.slot 2]⟩
def n143 : Notes := { anns := [], frz := [], rgs := [] }
def c144 : CFn := ⟨sq ([
oo 2 (.mv (kb false))]) (
sq ([
om 3 0,
om 4 0,
ob 5 .neq (.t 3) (.t 4),
om 2 5]) (
.ret)), [.slot 2]⟩
def n144 : Notes := { anns := [], frz := [], rgs := [] }
def c145 : CFn := ⟨sq ([
oo 2 (.mv (kb false))]) (
sq ([
om 3 0,
om 4 0,
ob 5 .neq (.t 3) (.t 4),
om 2 5]) (
.ret)), [.slot 2]⟩
def n145 : Notes := { anns := [], frz := [], rgs := [] }
def c151 : CFn := ⟨sq ([
oo 4 (.mv (kb false))]) (
.seq (sq ([
om 6 0,
oo 7 (.len 0 (.t 6)),
oo 8 (.mv (ki 0))]) (
.block 0 (.loop ⟨[0, 1, 7, 8], [], [], [], [], true⟩ (sq ([
ob 9 .lss (.t 8) (.t 7)]) (
.seq (ct 9 (
.skip) (.exit 0)) (
.seq (.block 1 (sq ([
om 10 8,
om 5 10]) (
.seq (.region true [
om 11 5,
ow 12 (.bin .gtr (.t 11) (ki 0)) 1,
ow 13 (.mv (.t 12)) 3,
⟨some 14, .mv (.t 1), (some (13, true)), 7⟩,
⟨some 15, .mv (.t 0), (some (13, true)), 7⟩,
⟨some 16, .mv (.t 5), (some (13, true)), 7⟩,
⟨some 17, .bin .sub (.t 16) (ki 1), (some (13, true)), 39⟩,
⟨some 18, .ia 4 (.t 15) (.t 17), (some (13, true)), 119⟩,
⟨some 19, .ld true 4 (.t 18), (some (13, true)), 247⟩,
⟨some 20, .mv (.t 0), (some (13, true)), 7⟩,
⟨some 21, .mv (.t 5), (some (13, true)), 7⟩,
⟨some 22, .ia 4 (.t 20) (.t 21), (some (13, true)), 1543⟩,
⟨some 23, .ld true 4 (.t 22), (some (13, true)), 3591⟩,
⟨some 24, .callv (.t 14) [.t 19, .t 23] 4 true, (some (13, true)), 8191⟩,
⟨some 25, .bin .geq (.t 24) (ki 0), (some (13, true)), 16383⟩,
ow 26 (.pick (.t 13) (.t 25) (kb false)) 32767]) (
ct 26 (
sq ([
oo 4 (.mv (kb false))]) (
.ret)) (.skip))))) (
.region false [
ob 27 .add (.t 8) (ki 1),
om 8 27]))))))) (
sq ([
oo 4 (.mv (kb true))]) (
.ret))), [.slot 4]⟩
def n151 : Notes := { anns := [⟨[0, 1, 7, 8], [], [], [], [], true⟩], frz := [], rgs := [] }
def c152 : CFn := ⟨sq ([
oo 1 (.box (.t 0)),
oo 2 (.mv (kb false))]) (
sq ([
ol 3 true 4 1,
oo 4 (.call 153 [.t 3] 0 true),
oo 5 (.un .not (.t 4)),
om 2 5]) (
.ret)), [.slot 2]⟩
def n152 : Notes := { anns := [], frz := [], rgs := [] }
def c153 : CFn := ⟨sq ([
oo 1 (.box (.t 0)),
oo 2 (.mv (kb false))]) (
sq ([
oo 3 (fa 0 1),
ol 4 false 1 3,
ob 5 .eql (.t 4) (ki 4),
om 6 5,
og 7 (fa 3 1) 6,
og 8 (.ld false 1 (.t 7)) 6,
og 9 (.len 0 (.t 8)) 6,
og 10 (.bin .eql (.t 9) (ki 2)) 6,
oo 11 (.pick (.t 6) (.t 10) (kb false)),
om 12 11,
og 13 (fa 3 1) 12,
og 14 (.ld false 1 (.t 13)) 12,
og 15 (.ia 4 (.t 14) (ki 0)) 12,
og 16 (fa 0 15) 12,
og 17 (.ld false 1 (.t 16)) 12,
og 18 (.bin .eql (.t 17) (ki 3)) 12,
oo 19 (.pick (.t 12) (.t 18) (kb false)),
om 2 19]) (
.ret)), [.slot 2]⟩
def n153 : Notes := { anns := [], frz := [], rgs := [] }
def c154 : CFn := ⟨sq ([
oo 2 (.box (.t 0)),
oo 3 (.box (.t 1)),
oo 4 (.mv (ki 0))]) (
.seq (.region true [
ol 5 true 4 2,
ow 6 (.call 137 [.t 5] 0 true) 1,
ol 7 true 4 3,
ow 8 (.call 137 [.t 7] 0 true) 7,
ow 9 (.call 129 [.t 6, .t 8] 0 true) 15,
ow 4 (.mv (.t 9)) 31]) (
.ret)), [.slot 4]⟩
def n154 : Notes := { anns := [], frz := [], rgs := [] }
def c155 : CFn := ⟨sq ([
oo 4 (.mv (ki 0))]) (
.seq (sq ([
om 6 0,
oo 7 (.len 0 (.t 6)),
oo 8 (.mv (ki 0))]) (
.block 0 (.loop ⟨[0, 1, 7, 8], [], [], [], [], true⟩ (sq ([
ob 9 .lss (.t 8) (.t 7)]) (
.seq (ct 9 (
.skip) (.exit 0)) (
.seq (.block 1 (sq ([
om 10 8,
om 5 10]) (
sq ([
om 11 1,
om 12 0,
om 13 5,
oo 14 (.ia 4 (.t 12) (.t 13)),
ol 15 true 4 14,
oo 16 (.callv (.t 11) [.t 15] 4 true)]) (
ct 16 (
sq ([
om 17 5,
om 4 17]) (
.ret)) (.skip))))) (
.region false [
ob 18 .add (.t 8) (ki 1),
om 8 18]))))))) (
sq ([
oo 4 (.mv (.k (.d (.i .i64 (-1)))))]) (
.ret))), [.slot 4]⟩
def n155 : Notes := { anns := [⟨[0, 1, 7, 8], [], [], [], [], true⟩], frz := [], rgs := [] }
def c169 : CFn := ⟨sq ([
oo 1 (.box (.t 0)),
oo 2 (.mv (kb false))]) (
sq ([
ol 3 true 3 1,
oo 4 (.call 184 [.t 3] 0 true),
om 5 4,
og 6 (fa 1 1) 5,
og 7 (.ld false 1 (.t 6)) 5,
og 8 (.ia 3 (.t 7) (ki 0)) 5,
og 9 (fa 1 8) 5,
og 10 (.ld false 1 (.t 9)) 5,
og 11 (.len 0 (.t 10)) 5,
og 12 (.bin .eql (.t 11) (ki 0)) 5,
oo 13 (.pick (.t 5) (.t 12) (kb false)),
om 14 13,
og 15 (fa 2 1) 14,
og 16 (.ld false 1 (.t 15)) 14,
og 17 (.mkf 186 [] [.t 1] true) 14,
og 18 (.call 185 [.t 16, .t 17] 4 true) 14,
oo 19 (.pick (.t 14) (.t 18) (kb false)),
om 2 19]) (
.ret)), [.slot 2]⟩
def n169 : Notes := { anns := [], frz := [0, 0, 0, 0, 0, 0, 0, 0, 0, 0, 0, 0, 0, 0, 0, 0, 1], rgs := [] }
def c170 : CFn := ⟨sq ([
oo 2 (.zero (.agg [(.nil 3), (.nil 3), (.nil 3)]))]) (
sq ([
oo 4 (.build [(.d (.s [])), (.d (.s [])), (.d (.b false))] [(0, 1, (.k (.d (.s [110, 117, 109])))), (1, 1, (.k (.d (.s [91, 48, 45, 57, 93, 43]))))]),
oo 5 (.build [(.d (.s [])), (.d (.s [])), (.d (.b false))] [(0, 1, (.k (.d (.s [105, 100])))), (1, 1, (.k (.d (.s [91, 97, 45, 122, 93, 43]))))]),
oo 6 (.build [(.d (.s [])), (.d (.s [])), (.d (.b false))] [(0, 1, (.k (.d (.s [112, 108, 117, 115])))), (1, 1, (.k (.d (.s [92, 43]))))]),
oo 7 (.build [(.d (.s [])), (.d (.s [])), (.d (.b false))] [(0, 1, (.k (.d (.s [115, 116, 97, 114])))), (1, 1, (.k (.d (.s [92, 42]))))]),
oo 8 (.build [(.d (.s [])), (.d (.s [])), (.d (.b false))] [(0, 1, (.k (.d (.s [111, 112, 101, 110])))), (1, 1, (.k (.d (.s [92, 40]))))]),
oo 9 (.build [(.d (.s [])), (.d (.s [])), (.d (.b false))] [(0, 1, (.k (.d (.s [99, 108, 111, 115, 101])))), (1, 1, (.k (.d (.s [92, 41]))))]),
oo 10 (.build [(.d (.s [])), (.d (.s [])), (.d (.b false))] [(0, 1, (.k (.d (.s [98, 108, 97, 110, 107])))), (1, 1, (.k (.d (.s [91, 32, 92, 45, 93, 43])))), (2, 1, (kb true))]),
oo 11 (.build [(.d (.s [])), (.d (.s [])), (.d (.b false))] [(0, 1, (.k (.d (.s [108, 101, 116])))), (1, 1, (.k (.d (.s [61]))))]),
oo 12 (.bsa 3 8 [(.s []), (.s []), (.b false)] [(0, .t 4), (1, .t 5), (2, .t 6), (3, .t 7), (4, .t 8), (5, .t 9), (6, .t 10), (7, .t 11)]),
oo 13 (.build [(.nil 3), (.nil 3), (.nil 3)] [(0, 1, .t 12)]),
oo 3 (.zero (.agg [(.nil 3), (.nil 3), (.nil 3)])),
oz (.st 3 (.t 3) (.t 13)) 0]) (
sq ([
oo 14 (fa 0 3),
ol 15 false 1 14,
oo 16 (.ia 3 (.t 15) (ki 6)),
oo 17 (fa 1 16),
oz (.st 1 (.t 17) (.k (.d (.s [32, 43])))) 0]) (
sq ([
oo 18 (.bsa 1 2 [(.s [])] [(0, (.k (.d (.s [118, 97, 108])))), (1, (.k (.d (.s [98, 97, 100]))))]),
oo 19 (.build [(.d (.s [])), (.nil 1), (.nil 1)] [(0, 1, (.k (.d (.s [115])))), (2, 1, .t 18)]),
oo 20 (.bsa 1 1 [(.s [])] [(0, (.k (.d (.s [101, 110, 118]))))]),
oo 21 (.bsa 1 1 [(.s [])] [(0, (.k (.d (.s [118, 97, 108]))))]),
oo 22 (.build [(.d (.s [])), (.nil 1), (.nil 1)] [(0, 1, (.k (.d (.s [101])))), (1, 1, .t 20), (2, 1, .t 21)]),
oo 23 (.bsa 1 2 [(.s [])] [(0, (.k (.d (.s [101, 110, 118])))), (1, (.k (.d (.s [108, 101, 102, 116]))))]),
oo 24 (.bsa 1 1 [(.s [])] [(0, (.k (.d (.s [118, 97, 108]))))]),
oo 25 (.build [(.d (.s [])), (.nil 1), (.nil 1)] [(0, 1, (.k (.d (.s [109, 111, 114, 101])))), (1, 1, .t 23), (2, 1, .t 24)]),
oo 26 (.bsa 1 1 [(.s [])] [(0, (.k (.d (.s [101, 110, 118]))))]),
oo 27 (.bsa 1 2 [(.s [])] [(0, (.k (.d (.s [118, 97, 108])))), (1, (.k (.d (.s [115, 105, 122, 101]))))]),
oo 28 (.build [(.d (.s [])), (.nil 1), (.nil 1)] [(0, 1, (.k (.d (.s [102])))), (1, 1, .t 26), (2, 1, .t 27)]),
oo 29 (.bsa 3 4 [(.s []), (.l 1 []), (.l 1 [])] [(0, .t 19), (1, .t 22), (2, .t 25), (3, .t 28)]),
oo 30 (fa 1 3),
oz (.st 1 (.t 30) (.t 29)) 0]) (
sq ([
oo 31 (.build [(.d (.b false)), (.d (.i .i64 0))] [(1, 1, (ki 1))]),
oo 32 (.bsa 2 1 [(.b false), (.i .i64 0)] [(0, .t 31)]),
oo 33 (.build zE [(0, 1, (ki 22))]),
oo 34 (.build zV [(0, 1, (ki 3)), (2, 1, (.k (.d (.s [120]))))]),
oo 35 (.call 188 [.t 34] 0 true),
oo 36 (.build zV [(0, 1, (ki 1)), (1, 1, (ki 5))]),
oo 37 (.call 188 [.t 36] 0 true),
oo 38 (.bsa 8 3 [(.i .i64 0), (.i .i64 0), (.i .i64 0), (.s []), (.l 4 []), (.i .i64 0), (.i .i64 0), (.l 8 [])] [(0, .t 33), (1, .t 35), (2, .t 37)]),
oo 39 (.build zE [(0, 1, (ki 16)), (7, 1, .t 38)]),
oo 40 (.build [(.d (.i .i64 0)), (.d (.i .i64 0)), (.d (.i .i64 0)), (.d (.i .i64 0)), (.d (.i .i64 0)), (.d (.s [])), (.nil 4), (.d (.i .i64 0)), (.d (.i .i64 0)), (.nil 8)] [(0, 1, (ki 1)), (1, 1, (ki 0)), (2, 8, .t 39)]),
oo 41 (.call 189 [(ki 1), (ki 1)] 0 true),
oo 42 (.build [(.d (.i .i64 0)), (.d (.i .i64 0)), (.d (.i .i64 0)), (.d (.i .i64 0)), (.d (.i .i64 0)), (.d (.s [])), (.nil 4), (.d (.i .i64 0)), (.d (.i .i64 0)), (.nil 8)] [(0, 1, (ki 0)), (1, 1, (ki 0)), (2, 8, .t 41)]),
oo 43 (.call 189 [(ki 1), (ki 1)] 0 true),
oo 44 (.build zV [(0, 1, (ki 1)), (1, 1, (ki 10))]),
oo 45 (.call 188 [.t 44] 0 true),
oo 46 (.bsa 8 2 [(.i .i64 0), (.i .i64 0), (.i .i64 0), (.s []), (.l 4 []), (.i .i64 0), (.i .i64 0), (.l 8 [])] [(0, .t 43), (1, .t 45)]),
oo 47 (.build zE [(0, 1, (ki 8)), (7, 1, .t 46)]),
oo 48 (.build [(.d (.i .i64 0)), (.d (.i .i64 0)), (.d (.i .i64 0)), (.d (.i .i64 0)), (.d (.i .i64 0)), (.d (.s [])), (.nil 4), (.d (.i .i64 0)), (.d (.i .i64 0)), (.nil 8)] [(0, 1, (ki 0)), (1, 1, (ki 1)), (2, 8, .t 47)]),
oo 49 (.bsa 10 3 [(.i .i64 0), (.i .i64 0), (.i .i64 0), (.i .i64 0), (.i .i64 0), (.s []), (.l 4 []), (.i .i64 0), (.i .i64 0), (.l 8 [])] [(0, .t 40), (1, .t 42), (2, .t 48)]),
oo 50 (.build [(.d (.i .i64 0)), (.nil 2), (.nil 10)] [(0, 1, (ki 0)), (1, 1, .t 32), (2, 1, .t 49)]),
oo 51 (.build [(.d (.b false)), (.d (.i .i64 0))] [(1, 1, (ki 3))]),
oo 52 (.build [(.d (.b false)), (.d (.i .i64 0))] [(1, 1, (ki 2))]),
oo 53 (.bsa 2 2 [(.b false), (.i .i64 0)] [(0, .t 51), (1, .t 52)]),
oo 54 (.call 189 [(ki 0), (ki 0)] 0 true),
oo 55 (.build [(.d (.i .i64 0)), (.d (.i .i64 0)), (.d (.i .i64 0)), (.d (.i .i64 0)), (.d (.i .i64 0)), (.d (.s [])), (.nil 4), (.d (.i .i64 0)), (.d (.i .i64 0)), (.nil 8)] [(0, 1, (ki 1)), (1, 1, (ki 0)), (2, 8, .t 54)]),
oo 56 (.call 189 [(ki 0), (ki 0)] 0 true),
oo 57 (.build [(.d (.i .i64 0)), (.d (.i .i64 0)), (.d (.i .i64 0)), (.d (.i .i64 0)), (.d (.i .i64 0)), (.d (.s [])), (.nil 4), (.d (.i .i64 0)), (.d (.i .i64 0)), (.nil 8)] [(0, 1, (ki 2)), (1, 1, (ki 0)), (2, 8, .t 56)]),
oo 58 (.call 189 [(ki 1), (ki 1)] 0 true),
oo 59 (.build [(.d (.i .i64 0)), (.d (.i .i64 0)), (.d (.i .i64 0)), (.d (.i .i64 0)), (.d (.i .i64 0)), (.d (.s [])), (.nil 4), (.d (.i .i64 0)), (.d (.i .i64 0)), (.nil 8)] [(0, 1, (ki 2)), (1, 1, (ki 1)), (2, 8, .t 58)]),
oo 60 (.call 189 [(ki 2), (ki 2)] 0 true),
oo 61 (.build [(.d (.i .i64 0)), (.d (.i .i64 0)), (.d (.i .i64 0)), (.d (.i .i64 0)), (.d (.i .i64 0)), (.d (.s [])), (.nil 4), (.d (.i .i64 0)), (.d (.i .i64 0)), (.nil 8)] [(0, 1, (ki 0)), (1, 1, (ki 1)), (2, 8, .t 60)]),
oo 62 (.bsa 10 4 [(.i .i64 0), (.i .i64 0), (.i .i64 0), (.i .i64 0), (.i .i64 0), (.s []), (.l 4 []), (.i .i64 0), (.i .i64 0), (.l 8 [])] [(0, .t 55), (1, .t 57), (2, .t 59), (3, .t 61)]),
oo 63 (.build [(.d (.i .i64 0)), (.nil 2), (.nil 10)] [(0, 1, (ki 1)), (1, 1, .t 53), (2, 1, .t 62)]),
oo 64 (.call 190 [(ki 2)] 0 true),
oo 65 (.build [(.d (.b false)), (.d (.i .i64 0))] [(1, 1, (ki 3))]),
oo 66 (.build [(.d (.b false)), (.d (.i .i64 0))] [(1, 1, (ki 2))]),
oo 67 (.bsa 2 3 [(.b false), (.i .i64 0)] [(0, .t 64), (1, .t 65), (2, .t 66)]),
oo 68 (.call 189 [(ki 0), (ki 0)] 0 true),
oo 69 (.build [(.d (.i .i64 0)), (.d (.i .i64 0)), (.d (.i .i64 0)), (.d (.i .i64 0)), (.d (.i .i64 0)), (.d (.s [])), (.nil 4), (.d (.i .i64 0)), (.d (.i .i64 0)), (.nil 8)] [(0, 1, (ki 2)), (1, 1, (ki 0)), (2, 8, .t 68)]),
oo 70 (.call 189 [(ki 0), (ki 0)] 0 true),
oo 71 (.build [(.d (.i .i64 0)), (.d (.i .i64 0)), (.d (.i .i64 0)), (.d (.i .i64 0)), (.d (.i .i64 0)), (.d (.s [])), (.nil 4), (.d (.i .i64 0)), (.d (.i .i64 0)), (.nil 8)] [(0, 1, (ki 3)), (1, 1, (ki 0)), (2, 8, .t 70)]),
oo 72 (.call 189 [(ki 0), (ki 1)] 0 true),
oo 73 (.call 189 [(ki 2), (ki 1)] 0 true),
oo 74 (.bsa 8 2 [(.i .i64 0), (.i .i64 0), (.i .i64 0), (.s []), (.l 4 []), (.i .i64 0), (.i .i64 0), (.l 8 [])] [(0, .t 72), (1, .t 73)]),
oo 75 (.build zE [(0, 1, (ki 4)), (7, 1, .t 74)]),
oo 76 (.build [(.d (.i .i64 0)), (.d (.i .i64 0)), (.d (.i .i64 0)), (.d (.i .i64 0)), (.d (.i .i64 0)), (.d (.s [])), (.nil 4), (.d (.i .i64 0)), (.d (.i .i64 0)), (.nil 8)] [(0, 1, (ki 3)), (1, 1, (ki 1)), (2, 8, .t 75)]),
oo 77 (.call 189 [(ki 3), (ki 2)] 0 true),
oo 78 (.build [(.d (.i .i64 0)), (.d (.i .i64 0)), (.d (.i .i64 0)), (.d (.i .i64 0)), (.d (.i .i64 0)), (.d (.s [])), (.nil 4), (.d (.i .i64 0)), (.d (.i .i64 0)), (.nil 8)] [(0, 1, (ki 0)), (1, 1, (ki 2)), (2, 8, .t 77)]),
oo 79 (.bsa 10 4 [(.i .i64 0), (.i .i64 0), (.i .i64 0), (.i .i64 0), (.i .i64 0), (.s []), (.l 4 []), (.i .i64 0), (.i .i64 0), (.l 8 [])] [(0, .t 69), (1, .t 71), (2, .t 76), (3, .t 78)]),
oo 80 (.build [(.d (.i .i64 0)), (.nil 2), (.nil 10)] [(0, 1, (ki 2)), (1, 1, .t 67), (2, 1, .t 79)]),
oo 81 (.call 189 [(ki 0), (ki 1)] 0 true),
oo 82 (.build [(.d (.i .i64 0)), (.d (.i .i64 0)), (.d (.i .i64 0)), (.d (.i .i64 0)), (.d (.i .i64 0)), (.d (.s [])), (.nil 4), (.d (.i .i64 0)), (.d (.i .i64 0)), (.nil 8)] [(0, 1, (ki 0)), (1, 1, (ki 2)), (2, 8, .t 81)]),
oo 83 (.bsa 10 1 [(.i .i64 0), (.i .i64 0), (.i .i64 0), (.i .i64 0), (.i .i64 0), (.s []), (.l 4 []), (.i .i64 0), (.i .i64 0), (.l 8 [])] [(0, .t 82)]),
oo 84 (.build [(.d (.i .i64 0)), (.nil 2), (.nil 10)] [(0, 1, (ki 2)), (2, 1, .t 83)]),
oo 85 (.call 190 [(ki 0)] 0 true),
oo 86 (.bsa 2 1 [(.b false), (.i .i64 0)] [(0, .t 85)]),
oo 87 (.build zE [(0, 1, (ki 3)), (5, 1, (ki 1))]),
oo 88 (.build [(.d (.i .i64 0)), (.d (.i .i64 0)), (.d (.i .i64 0)), (.d (.i .i64 0)), (.d (.i .i64 0)), (.d (.s [])), (.nil 4), (.d (.i .i64 0)), (.d (.i .i64 0)), (.nil 8)] [(0, 1, (ki 0)), (1, 1, (ki 1)), (2, 8, .t 87)]),
oo 89 (.build zV [(0, 1, (ki 1)), (1, 1, (ki 1))]),
oo 90 (.call 188 [.t 89] 0 true),
oo 91 (.build [(.d (.i .i64 0)), (.d (.i .i64 0)), (.d (.i .i64 0)), (.d (.i .i64 0)), (.d (.i .i64 0)), (.d (.s [])), (.nil 4), (.d (.i .i64 0)), (.d (.i .i64 0)), (.nil 8)] [(0, 1, (ki 0)), (1, 1, (ki 2)), (2, 8, .t 90)]),
oo 92 (.bsa 10 2 [(.i .i64 0), (.i .i64 0), (.i .i64 0), (.i .i64 0), (.i .i64 0), (.s []), (.l 4 []), (.i .i64 0), (.i .i64 0), (.l 8 [])] [(0, .t 88), (1, .t 91)]),
oo 93 (.build [(.d (.i .i64 0)), (.nil 2), (.nil 10)] [(0, 1, (ki 3)), (1, 1, .t 86), (2, 1, .t 92)]),
oo 94 (.call 190 [(ki 1)] 0 true),
oo 95 (.bsa 2 1 [(.b false), (.i .i64 0)] [(0, .t 94)]),
oo 96 (.call 189 [(ki 0), (ki 0)] 0 true),
oo 97 (.build zE [(0, 1, (ki 2)), (5, 1, (ki 1))]),
oo 98 (.bsa 8 2 [(.i .i64 0), (.i .i64 0), (.i .i64 0), (.s []), (.l 4 []), (.i .i64 0), (.i .i64 0), (.l 8 [])] [(0, .t 96), (1, .t 97)]),
oo 99 (.build zE [(0, 1, (ki 17)), (7, 1, .t 98)]),
oo 100 (.build [(.d (.i .i64 0)), (.d (.i .i64 0)), (.d (.i .i64 0)), (.d (.i .i64 0)), (.d (.i .i64 0)), (.d (.s [])), (.nil 4), (.d (.i .i64 0)), (.d (.i .i64 0)), (.nil 8)] [(0, 1, (ki 0)), (1, 1, (ki 1)), (2, 8, .t 99)]),
oo 101 (.build zE [(0, 1, (ki 2)), (5, 1, (ki 1))]),
oo 102 (.bsa 8 1 [(.i .i64 0), (.i .i64 0), (.i .i64 0), (.s []), (.l 4 []), (.i .i64 0), (.i .i64 0), (.l 8 [])] [(0, .t 101)]),
oo 103 (.build zE [(0, 1, (ki 15)), (7, 1, .t 102)]),
oo 104 (.build [(.d (.i .i64 0)), (.d (.i .i64 0)), (.d (.i .i64 0)), (.d (.i .i64 0)), (.d (.i .i64 0)), (.d (.s [])), (.nil 4), (.d (.i .i64 0)), (.d (.i .i64 0)), (.nil 8)] [(0, 1, (ki 0)), (1, 1, (ki 2)), (2, 8, .t 103)]),
oo 105 (.bsa 10 2 [(.i .i64 0), (.i .i64 0), (.i .i64 0), (.i .i64 0), (.i .i64 0), (.s []), (.l 4 []), (.i .i64 0), (.i .i64 0), (.l 8 [])] [(0, .t 100), (1, .t 104)]),
oo 106 (.build [(.d (.i .i64 0)), (.nil 2), (.nil 10)] [(0, 1, (ki 3)), (1, 1, .t 95), (2, 1, .t 105)]),
oo 107 (.call 190 [(ki 4)] 0 true),
oo 108 (.build [(.d (.b false)), (.d (.i .i64 0))] [(1, 1, (ki 1))]),
oo 109 (.call 190 [(ki 5)] 0 true),
oo 110 (.bsa 2 3 [(.b false), (.i .i64 0)] [(0, .t 107), (1, .t 108), (2, .t 109)]),
oo 111 (.call 189 [(ki 0), (ki 0)] 0 true),
oo 112 (.build [(.d (.i .i64 0)), (.d (.i .i64 0)), (.d (.i .i64 0)), (.d (.i .i64 0)), (.d (.i .i64 0)), (.d (.s [])), (.nil 4), (.d (.i .i64 0)), (.d (.i .i64 0)), (.nil 8)] [(0, 1, (ki 2)), (1, 1, (ki 0)), (2, 8, .t 111)]),
oo 113 (.call 189 [(ki 2), (ki 1)] 0 true),
oo 114 (.build [(.d (.i .i64 0)), (.d (.i .i64 0)), (.d (.i .i64 0)), (.d (.i .i64 0)), (.d (.i .i64 0)), (.d (.s [])), (.nil 4), (.d (.i .i64 0)), (.d (.i .i64 0)), (.nil 8)] [(0, 1, (ki 0)), (1, 1, (ki 1)), (2, 8, .t 113)]),
oo 115 (.build zV [(0, 1, (ki 1)), (1, 1, (ki 2))]),
oo 116 (.call 188 [.t 115] 0 true),
oo 117 (.build [(.d (.i .i64 0)), (.d (.i .i64 0)), (.d (.i .i64 0)), (.d (.i .i64 0)), (.d (.i .i64 0)), (.d (.s [])), (.nil 4), (.d (.i .i64 0)), (.d (.i .i64 0)), (.nil 8)] [(0, 1, (ki 0)), (1, 1, (ki 2)), (2, 8, .t 116)]),
oo 118 (.bsa 10 3 [(.i .i64 0), (.i .i64 0), (.i .i64 0), (.i .i64 0), (.i .i64 0), (.s []), (.l 4 []), (.i .i64 0), (.i .i64 0), (.l 8 [])] [(0, .t 112), (1, .t 114), (2, .t 117)]),
oo 119 (.build [(.d (.i .i64 0)), (.nil 2), (.nil 10)] [(0, 1, (ki 3)), (1, 1, .t 110), (2, 1, .t 118)]),
oo 120 (.bsa 3 7 [(.i .i64 0), (.l 2 []), (.l 10 [])] [(0, .t 50), (1, .t 63), (2, .t 80), (3, .t 84), (4, .t 93), (5, .t 106), (6, .t 119)]),
oo 121 (fa 2 3),
oz (.st 1 (.t 121) (.t 120)) 0]) (
.seq (sq ([
om 122 0,
ob 123 .rem (.t 122) (ki 4)]) (
.block 0 (sq ([
ob 125 .eql (.t 123) (ki 1),
om 124 125]) (
ct 124 (
.region true [
oo 126 (fa 2 3),
ow 127 (.ld false 1 (.t 126)) 1,
oo 128 (.call 190 [(ki 7)] 0 true),
ow 129 (.call 190 [(ki 1)] 0 true) 4,
oo 130 (.build [(.d (.b false)), (.d (.i .i64 0))] [(1, 1, (ki 3))]),
oo 131 (.build [(.d (.b false)), (.d (.i .i64 0))] [(1, 1, (ki 3))]),
ow 132 (.bsa 2 4 [(.b false), (.i .i64 0)] [(0, .t 128), (1, .t 129), (2, .t 130), (3, .t 131)]) 60,
ow 133 (.call 189 [(ki 0), (ki 0)] 0 true) 12,
ow 134 (.build [(.d (.i .i64 0)), (.d (.i .i64 0)), (.d (.i .i64 0)), (.d (.i .i64 0)), (.d (.i .i64 0)), (.d (.s [])), (.nil 4), (.d (.i .i64 0)), (.d (.i .i64 0)), (.nil 8)] [(0, 1, (ki 3)), (1, 1, (ki 0)), (2, 8, .t 133)]) 140,
ow 135 (.call 189 [(ki 0), (ki 0)] 0 true) 140,
oo 136 (.build zE [(0, 1, (ki 2)), (5, 1, (ki 2))]),
ow 137 (.call 189 [(ki 3), (ki 1)] 0 true) 652,
ow 138 (.bsa 8 3 [(.i .i64 0), (.i .i64 0), (.i .i64 0), (.s []), (.l 4 []), (.i .i64 0), (.i .i64 0), (.l 8 [])] [(0, .t 135), (1, .t 136), (2, .t 137)]) 3724,
ow 139 (.build zE [(0, 1, (ki 16)), (7, 1, .t 138)]) 7820,
ow 140 (.build [(.d (.i .i64 0)), (.d (.i .i64 0)), (.d (.i .i64 0)), (.d (.i .i64 0)), (.d (.i .i64 0)), (.d (.s [])), (.nil 4), (.d (.i .i64 0)), (.d (.i .i64 0)), (.nil 8)] [(0, 1, (ki 4)), (1, 1, (ki 0)), (2, 8, .t 139)]) 16012,
ow 141 (.call 189 [(ki 4), (ki 1)] 0 true) 2700,
ow 142 (.build [(.d (.i .i64 0)), (.d (.i .i64 0)), (.d (.i .i64 0)), (.d (.i .i64 0)), (.d (.i .i64 0)), (.d (.s [])), (.nil 4), (.d (.i .i64 0)), (.d (.i .i64 0)), (.nil 8)] [(0, 1, (ki 0)), (1, 1, (ki 1)), (2, 8, .t 141)]) 35468,
ow 143 (.call 189 [(ki 3), (ki 2)] 0 true) 35468,
ow 144 (.call 189 [(ki 4), (ki 2)] 0 true) 166540,
ow 145 (.bsa 8 2 [(.i .i64 0), (.i .i64 0), (.i .i64 0), (.s []), (.l 4 []), (.i .i64 0), (.i .i64 0), (.l 8 [])] [(0, .t 143), (1, .t 144)]) 428684,
ow 146 (.build zE [(0, 1, (ki 4)), (7, 1, .t 145)]) 952972,
ow 147 (.build [(.d (.i .i64 0)), (.d (.i .i64 0)), (.d (.i .i64 0)), (.d (.i .i64 0)), (.d (.i .i64 0)), (.d (.s [])), (.nil 4), (.d (.i .i64 0)), (.d (.i .i64 0)), (.nil 8)] [(0, 1, (ki 0)), (1, 1, (ki 2)), (2, 8, .t 146)]) 2001548,
ow 148 (.bsa 10 4 [(.i .i64 0), (.i .i64 0), (.i .i64 0), (.i .i64 0), (.i .i64 0), (.s []), (.l 4 []), (.i .i64 0), (.i .i64 0), (.l 8 [])] [(0, .t 134), (1, .t 140), (2, .t 142), (3, .t 147)]) 4194188,
ow 149 (.build [(.d (.i .i64 0)), (.nil 2), (.nil 10)] [(0, 1, (ki 3)), (1, 1, .t 132), (2, 1, .t 148)]) 8388604,
ow 150 (.bsa 3 1 [(.i .i64 0), (.l 2 []), (.l 10 [])] [(0, .t 149)]) 16777212,
ow 151 (.apa 3 56 (.t 127) (.t 150)) 33554431,
ow 152 (fa 2 3) 67108863,
oz (.st 1 (.t 152) (.t 151)) 134217727]) (sq ([
ob 154 .eql (.t 123) (ki 2),
om 153 154]) (
ct 153 (
.region false [
oo 155 (fa 2 3),
ol 156 false 1 155,
oo 157 (.ia 3 (.t 156) (ki 2)),
oo 158 (fa 2 157),
ol 159 false 1 158,
oo 160 (.ia 10 (.t 159) (ki 2)),
oo 161 (fa 2 160),
oo 162 (fa 0 161),
oz (.st 1 (.t 162) (ki 6)) 0]) (sq ([
ob 164 .eql (.t 123) (ki 3),
om 163 164]) (
ct 163 (
.region false [
oo 165 (fa 2 3),
ol 166 false 1 165,
oo 167 (.ia 3 (.t 166) (ki 0)),
oo 168 (fa 2 167),
ol 169 false 1 168,
oo 170 (.build zE [(0, 1, (ki 22))]),
oo 171 (.ia 10 (.t 169) (ki 0)),
oo 172 (fa 2 171),
oz (.st 8 (.t 172) (.t 170)) 0]) (.skip))))))))) (
sq ([
ol 173 true 3 3,
oz (.st 3 (.t 2) (.t 173)) 0]) (
.ret))))))), [.cell 2 true 3]⟩
def n170 : Notes := { anns := [], frz := [0, 0, 0, 0, 0, 0, 0, 0, 0, 1, 0, 0, 0, 0, 0, 0, 0, 0, 1, 0, 1, 1, 0, 1, 1, 0, 1, 1, 0, 1, 0, 0, 0, 1, 0, 0, 0, 0, 0, 1, 0, 0, 0, 0, 0, 0, 0, 1, 0, 0, 1, 0, 0, 0, 1, 0, 0, 0, 0, 0, 0, 0, 0, 1, 0, 0, 0, 0, 1, 0, 0, 0, 0, 0, 0, 1, 0, 0, 0, 0, 1, 0, 0, 0, 1, 0, 0, 1, 0, 0, 0, 0, 0, 1, 0, 0, 1, 0, 0, 1, 0, 0, 0, 1, 0, 0, 1, 0, 0, 0, 0, 1, 0, 0, 0, 0, 0, 0, 0, 1, 0, 1, 0, 0, 0, 0, 0, 0, 0, 0, 0, 0, 0, 0, 1, 0, 0, 0, 0, 0, 1, 0, 0, 0, 0, 0, 0, 1, 0, 0, 1, 0, 1, 1], rgs := [] }
def c181 : CFn := ⟨sq ([
oo 2 (.box (.t 0)),
oo 4 (.mv (ki 0))]) (
.seq (.region true [
ol 5 true 3 2,
om 6 1,
ow 7 (.call 197 [.t 5, .t 6] 0 true) 3,
ow 8 (.fl false 1 1 (.t 7)) 7,
ow 9 (.len 0 (.t 8)) 15,
ol 10 true 3 2,
om 11 1,
ow 12 (.call 197 [.t 10, .t 11] 0 true) 103,
ow 13 (.fl false 2 1 (.t 12)) 231,
ow 14 (.len 0 (.t 13)) 487,
ow 15 (.bin .add (.t 9) (.t 14)) 1023,
ow 4 (.mv (.t 15)) 2047]) (
.ret)), [.slot 4]⟩
def n181 : Notes := { anns := [], frz := [], rgs := [] }
def c182 : CFn := ⟨sq ([
oo 3 (.box (.t 0)),
oo 6 (.mv (kb false))]) (
sq ([
om 7 2,
ob 8 .geq (.t 7) (ki 0),
om 9 8,
og 10 (.mv (.t 2)) 9,
og 11 (.ld true 3 (.t 3)) 9,
og 12 (.mv (.t 1)) 9,
og 13 (.call 197 [.t 11, .t 12] 0 true) 9,
og 14 (.fl false 1 1 (.t 13)) 9,
og 15 (.len 0 (.t 14)) 9,
og 16 (.bin .lss (.t 10) (.t 15)) 9,
oo 17 (.pick (.t 9) (.t 16) (kb false)),
om 6 17]) (
.ret)), [.slot 6]⟩
def n182 : Notes := { anns := [], frz := [], rgs := [] }
def c184 : CFn := ⟨sq ([
oo 1 (.box (.t 0)),
oo 2 (.mv (kb false))]) (
.seq (sq ([
oo 9 (fa 0 1),
ol 10 false 1 9,
oo 11 (.call 198 [.t 10, (ki 8)] 0 true),
oo 12 (.un .not (.t 11)),
om 13 12,
oh 14 (fa 1 1) 13,
oh 15 (.ld false 1 (.t 14)) 13,
oh 16 (.call 199 [.t 15, (ki 8)] 0 true) 13,
oh 17 (.un .not (.t 16)) 13,
oo 18 (.pick (.t 13) (kb true) (.t 17)),
om 19 18,
oh 20 (fa 2 1) 19,
oh 21 (.ld false 1 (.t 20)) 19,
oh 22 (.call 200 [.t 21, (ki 16)] 0 true) 19,
oh 23 (.un .not (.t 22)) 19,
oo 24 (.pick (.t 19) (kb true) (.t 23))]) (
ct 24 (
sq ([
oo 2 (.mv (kb false))]) (
.ret)) (.skip))) (
sq ([
oo 3 (.mv (.k (.nil 1)))]) (
.seq (sq ([
oo 25 (fa 0 1),
ol 26 false 1 25,
oo 27 (.len 0 (.t 26)),
oo 28 (.mv (ki 0))]) (
.block 0 (.loop ⟨[1, 3, 26, 27, 28], [3], [], [], [], true⟩ (sq ([
ob 29 .lss (.t 28) (.t 27)]) (
.seq (ct 29 (
.skip) (.exit 0)) (
.seq (.block 1 (sq ([
oo 30 (.ia 3 (.t 26) (.t 28)),
ol 31 true 3 30,
oo 5 (.zero (.agg [(.d (.s [])), (.d (.s [])), (.d (.b false))])),
oz (.st 3 (.t 5) (.t 31)) 0]) (
.region false [
om 32 3,
oo 33 (fa 0 5),
ol 34 false 1 33,
oo 35 (.bsl 1 1 [(.s [])] [(0, .t 34)]),
oo 36 (.app 1 16 (.t 32) (.t 35)),
om 3 36]))) (
.region false [
ob 37 .add (.t 28) (ki 1),
om 28 37]))))))) (
.seq (sq ([
oo 38 (fa 1 1),
ol 39 false 1 38,
oo 40 (.len 0 (.t 39)),
oo 41 (.mv (ki 0))]) (
.block 2 (.loop ⟨[1, 3, 39, 40, 41], [3], [], [], [], true⟩ (sq ([
ob 42 .lss (.t 41) (.t 40)]) (
.seq (ct 42 (
.skip) (.exit 2)) (
.seq (.block 3 (sq ([
oo 43 (.ia 3 (.t 39) (.t 41)),
ol 44 true 3 43,
oo 7 (.zero (.agg [(.d (.s [])), (.nil 1), (.nil 1)])),
oz (.st 3 (.t 7) (.t 44)) 0]) (
sq ([
om 45 3,
oo 46 (fa 0 7),
ol 47 false 1 46,
oo 48 (.bsl 1 1 [(.s [])] [(0, .t 47)]),
oo 49 (.app 1 16 (.t 45) (.t 48)),
om 3 49]) (
sq ([
oo 50 (fa 1 7),
ol 51 false 1 50,
oo 52 (fa 2 7),
ol 53 false 1 52,
oo 54 (.bsl 1 2 [(.l 1 [])] [(0, .t 51), (1, .t 53)]),
oo 55 (.call 201 [.t 54] 0 true),
om 8 55]) (
sq ([
om 56 8,
oo 57 (.len 0 (.t 56)),
ob 58 .gtr (.t 57) (ki 4),
om 59 58,
oh 60 (.mv (.t 8)) 59,
oh 61 (.call 202 [.t 60] 0 true) 59,
oh 62 (.un .not (.t 61)) 59,
oo 63 (.pick (.t 59) (kb true) (.t 62))]) (
ct 63 (
sq ([
oo 2 (.mv (kb false))]) (
.ret)) (.skip))))))) (
.region false [
ob 64 .add (.t 41) (ki 1),
om 41 64]))))))) (
sq ([
om 65 3,
oo 66 (.call 202 [.t 65] 0 true),
om 67 66,
og 68 (fa 2 1) 67,
og 69 (.ld false 1 (.t 68)) 67,
og 70 (.mkf 204 [] [.t 1] true) 67,
og 71 (.call 203 [.t 69, .t 70] 4 true) 67,
og 72 (.un .not (.t 71)) 67,
oo 73 (.pick (.t 67) (.t 72) (kb false)),
om 2 73]) (
.ret)))))), [.slot 2]⟩
def n184 : Notes := { anns := [⟨[1, 3, 26, 27, 28], [3], [], [], [], true⟩, ⟨[1, 3, 39, 40, 41], [3], [], [], [], true⟩], frz := [0, 0, 0, 0, 0, 0, 0, 0, 0, 0, 0, 0, 0, 0, 0, 0, 0, 0, 0, 0, 0, 0, 0, 0, 0, 0, 0, 0, 0, 0, 0, 0, 0, 0, 0, 0, 0, 0, 0, 0, 0, 0, 0, 0, 0, 0, 0, 0, 0, 0, 0, 0, 0, 0, 0, 0, 0, 0, 0, 0, 0, 0, 0, 0, 0, 0, 0, 0, 0, 0, 0, 0, 0, 0, 0, 1], rgs := [] }
def c185 : CFn := ⟨sq ([
oo 3 (.box (.t 1)),
oo 4 (.mv (kb false))]) (
sq ([
om 5 0,
oo 6 (.mkf 206 [] [.t 3] true),
oo 7 (.call 203 [.t 5, .t 6] 4 true),
oo 8 (.un .not (.t 7)),
om 4 8]) (
.ret)), [.slot 4]⟩
def n185 : Notes := { anns := [], frz := [0, 0, 0, 1], rgs := [] }
def c186 : CFn := ⟨sq ([
oo 2 (.box (.t 0)),
oo 3 (.mv (kb false))]) (
sq ([
ol 4 true 3 1,
ol 5 true 3 2,
oo 6 (.call 187 [.t 4, .t 5] 0 true),
om 3 6]) (
.ret)), [.slot 3]⟩
def n186 : Notes := { anns := [], frz := [], rgs := [] }
def c187 : CFn := ⟨sq ([
oo 2 (.box (.t 0)),
oo 3 (.box (.t 1)),
oo 4 (.mv (kb false))]) (
sq ([
ol 7 true 3 2,
ol 8 true 3 3,
oo 9 (.call 207 [.t 7, .t 8] 4 true),
oo 5 (.zero (.d .nm)),
oz (.st 1 (.t 5) (.t 9)) 0]) (
sq ([
oo 10 (fa 2 3),
ol 11 false 1 10,
oo 12 (.mkf 209 [] [.t 5, .t 3, .t 2] true),
oo 13 (.call 208 [.t 11, .t 12] 4 true),
om 6 13]) (
sq ([
om 14 6,
om 15 14,
og 16 (.ld false 1 (.t 5)) 15,
og 17 (.len 2 (.t 16)) 15,
og 18 (.bin .eql (.t 17) (ki 0)) 15,
oo 19 (.pick (.t 15) (.t 18) (kb false)),
om 4 19]) (
.ret)))), [.slot 4]⟩
def n187 : Notes := { anns := [], frz := [0, 0, 0, 0, 0, 0, 0, 0, 0, 0, 1], rgs := [] }
def c188 : CFn := ⟨sq ([
oo 1 (.box (.t 0)),
oo 2 (.zero (.agg zE))]) (
sq ([
ol 3 true 4 1,
oo 4 (.build zE [(0, 1, (ki 0)), (1, 4, .t 3)]),
oz (.st 8 (.t 2) (.t 4)) 0]) (
.ret)), [.cell 2 true 8]⟩
def n188 : Notes := { anns := [], frz := [], rgs := [] }
def c189 : CFn := ⟨sq ([
oo 4 (.zero (.agg zE))]) (
sq ([
om 5 0,
om 6 1,
oo 7 (.build zE [(0, 1, (ki 1)), (5, 1, .t 5), (6, 1, .t 6)]),
oz (.st 8 (.t 4) (.t 7)) 0]) (
.ret)), [.cell 4 true 8]⟩
def n189 : Notes := { anns := [], frz := [], rgs := [] }
def c190 : CFn := ⟨sq ([
oo 2 (.zero (.agg [(.d (.b false)), (.d (.i .i64 0))]))]) (
sq ([
om 3 0,
oo 4 (.build [(.d (.b false)), (.d (.i .i64 0))] [(0, 1, (kb true)), (1, 1, .t 3)]),
oz (.st 2 (.t 2) (.t 4)) 0]) (
.ret)), [.cell 2 true 2]⟩
def n190 : Notes := { anns := [], frz := [], rgs := [] }
def c192 : CFn := ⟨sq ([
oo 1 (.box (.t 0)),
oo 2 (.mv (.k (.nil 2)))]) (
.seq (sq ([
oo 5 (fa 0 1),
ol 6 false 1 5,
ob 7 .eql (.t 6) (ki 1)]) (
ct 7 (
.region false [
om 8 2,
oo 9 (fa 5 1),
ol 10 false 1 9,
oo 11 (fa 6 1),
ol 12 false 1 11,
oo 13 (.build [(.d (.i .i64 0)), (.d (.i .i64 0))] [(0, 1, .t 10), (1, 1, .t 12)]),
oo 14 (.bsl 2 1 [(.i .i64 0), (.i .i64 0)] [(0, .t 13)]),
oo 15 (.app 2 16 (.t 8) (.t 14)),
om 2 15]) (.skip))) (
.seq (sq ([
oo 16 (fa 7 1),
ol 17 false 1 16,
oo 18 (.len 0 (.t 17)),
oo 19 (.mv (ki 0))]) (
.block 0 (.loop ⟨[2, 17, 18, 19], [2], [], [], [], true⟩ (sq ([
ob 20 .lss (.t 19) (.t 18)]) (
.seq (ct 20 (
.skip) (.exit 0)) (
.seq (.block 1 (sq ([
oo 21 (.ia 8 (.t 17) (.t 19)),
ol 22 true 8 21,
oo 4 (.zero (.agg zE)),
oz (.st 8 (.t 4) (.t 22)) 0]) (
.region false [
om 23 2,
ol 24 true 8 4,
oo 25 (.call 192 [.t 24] 0 true),
oo 26 (.app 2 16 (.t 23) (.t 25)),
om 2 26]))) (
.region false [
ob 27 .add (.t 19) (ki 1),
om 19 27]))))))) (
sq ([
om 28 2,
om 2 28]) (
.ret)))), [.slot 2]⟩
def n192 : Notes := { anns := [⟨[2, 17, 18, 19], [2], [], [], [], true⟩], frz := [], rgs := [] }
def c197 : CFn := ⟨sq ([
oo 2 (.box (.t 0)),
oo 4 (.zero (.agg [(.d (.s [])), (.nil 1), (.nil 1)]))]) (
.seq (sq ([
om 5 1,
ob 6 .geq (.t 5) (ki 0),
om 7 6,
og 8 (.mv (.t 1)) 7,
og 9 (fa 1 2) 7,
og 10 (.ld false 1 (.t 9)) 7,
og 11 (.len 0 (.t 10)) 7,
og 12 (.bin .lss (.t 8) (.t 11)) 7,
oo 13 (.pick (.t 7) (.t 12) (kb false))]) (
ct 13 (
.region false [
oo 14 (fa 1 2),
ol 15 false 1 14,
om 16 1,
oo 17 (.ia 3 (.t 15) (.t 16)),
ol 18 true 3 17,
oz (.st 3 (.t 4) (.t 18)) 0]) (.skip))) (
sq ([
ol 19 true 3 4,
oz (.st 3 (.t 4) (.t 19)) 0]) (
.ret))), [.cell 4 true 3]⟩
def n197 : Notes := { anns := [], frz := [], rgs := [] }
def c198 : CFn := ⟨sq ([
oo 4 (.mv (kb false))]) (
sq ([
om 5 0,
oo 6 (.len 0 (.t 5)),
ob 7 .geq (.t 6) (ki 1),
om 8 7,
og 9 (.mv (.t 0)) 8,
og 10 (.len 0 (.t 9)) 8,
og 11 (.mv (.t 1)) 8,
og 12 (.bin .leq (.t 10) (.t 11)) 8,
oo 13 (.pick (.t 8) (.t 12) (kb false)),
om 4 13]) (
.ret)), [.slot 4]⟩
def n198 : Notes := { anns := [], frz := [], rgs := [] }
def c199 : CFn := ⟨sq ([
oo 4 (.mv (kb false))]) (
sq ([
om 5 0,
oo 6 (.len 0 (.t 5)),
ob 7 .geq (.t 6) (ki 1),
om 8 7,
og 9 (.mv (.t 0)) 8,
og 10 (.len 0 (.t 9)) 8,
og 11 (.mv (.t 1)) 8,
og 12 (.bin .leq (.t 10) (.t 11)) 8,
oo 13 (.pick (.t 8) (.t 12) (kb false)),
om 4 13]) (
.ret)), [.slot 4]⟩
def n199 : Notes := { anns := [], frz := [], rgs := [] }
def c200 : CFn := ⟨sq ([
oo 4 (.mv (kb false))]) (
sq ([
om 5 0,
oo 6 (.len 0 (.t 5)),
ob 7 .geq (.t 6) (ki 1),
om 8 7,
og 9 (.mv (.t 0)) 8,
og 10 (.len 0 (.t 9)) 8,
og 11 (.mv (.t 1)) 8,
og 12 (.bin .leq (.t 10) (.t 11)) 8,
oo 13 (.pick (.t 8) (.t 12) (kb false)),
om 4 13]) (
.ret)), [.slot 4]⟩
def n200 : Notes := { anns := [], frz := [], rgs := [] }
def c201 : CFn := ⟨sq ([
oo 2 (.mv (.k (.nil 1)))]) (
sq ([
oo 3 (.mv (ki 0))]) (
.seq (sq ([
om 9 0,
oo 10 (.len 0 (.t 9)),
oo 11 (.mv (ki 0))]) (
.block 0 (.loop ⟨[0, 3, 9, 10, 11], [], [], [], [], false⟩ (sq ([
ob 12 .lss (.t 11) (.t 10)]) (
.seq (ct 12 (
.skip) (.exit 0)) (
.seq (.block 1 (sq ([
oo 13 (.ia 1 (.t 9) (.t 11)),
ol 14 false 1 13,
om 5 14]) (
sq ([
om 15 3,
om 16 5,
oo 17 (.len 0 (.t 16)),
ob 18 .add (.t 15) (.t 17),
om 3 18]) (
sq ([
om 19 3,
ob 20 .lss (.t 19) (ki 0)]) (
ct 20 (
.region false [
oo 21 (.die),
oz (.die) 0]) (.skip)))))) (
.region false [
ob 22 .add (.t 11) (ki 1),
om 11 22]))))))) (
sq ([
om 23 3,
oo 24 (.callr 216 [(.k (.nil 1)), (.t 23)] 4),
om 6 24]) (
.seq (sq ([
om 25 0,
oo 26 (.len 0 (.t 25)),
oo 27 (.mv (ki 0))]) (
.block 2 (.loop ⟨[6, 25, 26, 27], [], [], [], [], false⟩ (sq ([
ob 28 .lss (.t 27) (.t 26)]) (
.seq (ct 28 (
.skip) (.exit 2)) (
.seq (.block 3 (sq ([
oo 29 (.ia 1 (.t 25) (.t 27)),
ol 30 false 1 29,
om 8 30]) (
.region false [
om 31 6,
om 32 8,
oo 33 (.apa 1 16 (.t 31) (.t 32)),
om 6 33]))) (
.region false [
ob 34 .add (.t 27) (ki 1),
om 27 34]))))))) (
sq ([
om 35 6,
om 2 35]) (
.ret)))))), [.slot 2]⟩
def n201 : Notes := { anns := [⟨[0, 3, 9, 10, 11], [], [], [], [], false⟩, ⟨[6, 25, 26, 27], [], [], [], [], false⟩], frz := [0, 0, 0, 0, 0, 0, 0, 0, 0, 0, 0, 0, 0, 0, 0, 0, 0, 0, 0, 0, 0, 3, 0, 0, 0, 0, 0, 0, 0, 0, 0, 0, 1], rgs := [] }
def c202 : CFn := ⟨sq ([
oo 2 (.mv (kb false))]) (
sq ([
om 3 0,
oo 4 (.call 217 [.t 3] 0 true),
om 5 4,
og 6 (.mv (.t 0)) 5,
og 7 (.call 218 [.t 6, (.k (.d (.f 219 [] [])))] 4 true) 5,
og 8 (.un .not (.t 7)) 5,
oo 9 (.pick (.t 5) (.t 8) (kb false)),
om 2 9]) (
.ret)), [.slot 2]⟩
def n202 : Notes := { anns := [], frz := [], rgs := [] }
def c203 : CFn := ⟨sq ([
oo 4 (.mv (kb false))]) (
sq ([
om 5 0,
om 6 1,
oo 7 (.call 221 [.t 5, .t 6] 4 true),
ob 8 .geq (.t 7) (ki 0),
om 4 8]) (
.ret)), [.slot 4]⟩
def n203 : Notes := { anns := [], frz := [], rgs := [] }
def c204 : CFn := ⟨sq ([
oo 2 (.box (.t 0)),
oo 3 (.mv (kb false))]) (
sq ([
ol 4 true 3 1,
ol 5 true 3 2,
oo 6 (.call 205 [.t 4, .t 5] 0 true),
oo 7 (.un .not (.t 6)),
om 3 7]) (
.ret)), [.slot 3]⟩
def n204 : Notes := { anns := [], frz := [], rgs := [] }
def c205 : CFn := ⟨sq ([
oo 2 (.box (.t 0)),
oo 3 (.box (.t 1)),
oo 4 (.mv (kb false))]) (
sq ([
oo 5 (fa 0 3),
ol 6 false 1 5,
ob 7 .geq (.t 6) (ki 0),
om 8 7,
og 9 (fa 0 3) 8,
og 10 (.ld false 1 (.t 9)) 8,
og 11 (fa 1 2) 8,
og 12 (.ld false 1 (.t 11)) 8,
og 13 (.len 0 (.t 12)) 8,
og 14 (.bin .lss (.t 10) (.t 13)) 8,
oo 15 (.pick (.t 8) (.t 14) (kb false)),
om 16 15,
og 17 (fa 1 3) 16,
og 18 (.ld false 1 (.t 17)) 16,
og 19 (.len 0 (.t 18)) 16,
og 20 (.bin .leq (.t 19) (ki 5)) 16,
oo 21 (.pick (.t 16) (.t 20) (kb false)),
om 22 21,
og 23 (fa 1 3) 22,
og 24 (.ld false 1 (.t 23)) 22,
og 25 (.mkf 223 [] [.t 2] true) 22,
og 26 (.call 222 [.t 24, .t 25] 4 true) 22,
og 27 (.un .not (.t 26)) 22,
oo 28 (.pick (.t 22) (.t 27) (kb false)),
om 4 28]) (
.ret)), [.slot 4]⟩
def n205 : Notes := { anns := [], frz := [0, 0, 0, 0, 0, 0, 0, 0, 0, 0, 0, 0, 0, 0, 0, 0, 0, 0, 0, 0, 0, 0, 0, 1], rgs := [] }
def c206 : CFn := ⟨sq ([
oo 2 (.box (.t 0)),
oo 3 (.mv (kb false))]) (
sq ([
ol 4 false 1 1,
ol 5 true 3 2,
oo 6 (.callv (.t 4) [.t 5] 4 true),
oo 7 (.un .not (.t 6)),
om 3 7]) (
.ret)), [.slot 3]⟩
def n206 : Notes := { anns := [], frz := [], rgs := [] }
def c207 : CFn := ⟨sq ([
oo 2 (.box (.t 0)),
oo 3 (.box (.t 1)),
oo 4 (.mv (.k (.d .nm)))]) (
sq ([
oo 13 (.mkm),
om 5 13]) (
.seq (sq ([
oo 14 (fa 1 3),
ol 15 false 1 14,
oo 16 (.len 0 (.t 15)),
ob 17 .add (.t 16) (ki 1),
oo 18 (.mv (ki 0))]) (
.block 0 (.loop ⟨[2, 3, 5, 17, 18], [], [], [], [], true⟩ (sq ([
ob 19 .lss (.t 18) (.t 17)]) (
.seq (ct 19 (
.skip) (.exit 0)) (
.seq (.block 1 (sq ([
om 20 18,
om 6 20]) (
sq ([
ol 22 true 3 3,
om 23 6,
oo 24 (.call 225 [.t 22, .t 23] 0 true),
om 21 24,
oo 25 (.ext (.t 21) 0),
oo 26 (.ext (.t 21) 1),
om 7 25,
om 8 26]) (
sq ([
ol 27 true 3 2,
om 28 7,
oo 29 (.call 181 [.t 27, .t 28] 0 true),
oo 30 (.mv (ki 0))]) (
.block 2 (.loop ⟨[2, 3, 5, 6, 17, 18, 29, 30], [], [], [], [], true⟩ (sq ([
ob 31 .lss (.t 30) (.t 29)]) (
.seq (ct 31 (
.skip) (.exit 2)) (
.seq (.block 3 (sq ([
om 32 30,
om 9 32]) (
sq ([
om 33 6,
om 34 9,
oo 35 (.build [(.d (.i .i64 0)), (.d (.i .i64 0))] [(0, 1, .t 33), (1, 1, .t 34)]),
oo 10 (.zero (.agg [(.d (.i .i64 0)), (.d (.i .i64 0))])),
oz (.st 2 (.t 10) (.t 35)) 0]) (
sq ([
ol 37 true 3 3,
om 38 6,
oo 39 (.call 225 [.t 37, .t 38] 0 true),
om 36 39,
oo 40 (.ext (.t 36) 0),
oo 41 (.ext (.t 36) 1),
om 11 40,
om 12 41]) (
sq ([
om 42 12,
om 43 42,
og 44 (.ld true 3 (.t 2)) 43,
og 45 (.ld true 3 (.t 3)) 43,
og 46 (.ld true 2 (.t 10)) 43,
og 47 (.call 214 [.t 44, .t 45, .t 46] 0 true) 43,
og 48 (.un .not (.t 47)) 43,
oo 49 (.pick (.t 43) (.t 48) (kb false))]) (
ct 49 (
.region false [
om 50 5,
ol 51 true 2 10,
oz (.mu true [.i, .i] (.t 50) (.t 51) (kb true)) 0]) (.skip))))))) (
.region false [
ob 52 .add (.t 30) (ki 1),
om 30 52])))))))))) (
.region false [
ob 53 .add (.t 18) (ki 1),
om 18 53]))))))) (
sq ([
om 54 5,
om 4 54]) (
.ret)))), [.slot 4]⟩
def n207 : Notes := { anns := [⟨[2, 3, 5, 17, 18], [], [], [], [], true⟩, ⟨[2, 3, 5, 6, 17, 18, 29, 30], [], [], [], [], true⟩], frz := [], rgs := [] }
def c208 : CFn := ⟨sq ([
oo 3 (.box (.t 1)),
oo 4 (.mv (kb false))]) (
sq ([
om 5 0,
oo 6 (.mkf 227 [] [.t 3] true),
oo 7 (.call 226 [.t 5, .t 6] 4 true),
oo 8 (.un .not (.t 7)),
om 4 8]) (
.ret)), [.slot 4]⟩
def n208 : Notes := { anns := [], frz := [0, 0, 0, 1], rgs := [] }
def c209 : CFn := ⟨sq ([
oo 4 (.box (.t 0)),
oo 5 (.mv (kb false))]) (
sq ([
oo 8 (fa 0 4),
ol 9 false 1 8,
oo 10 (fa 1 4),
ol 11 false 1 10,
oo 12 (.build [(.d (.i .i64 0)), (.d (.i .i64 0))] [(0, 1, .t 9), (1, 1, .t 11)]),
oo 6 (.zero (.agg [(.d (.i .i64 0)), (.d (.i .i64 0))])),
oz (.st 2 (.t 6) (.t 12)) 0]) (
sq ([
ol 13 false 1 1,
ol 14 true 2 6,
oo 15 (.lk true [.i, .i] false (.d (.b false)) (.t 13) (.t 14)),
om 7 15]) (
sq ([
ol 16 false 1 1,
ol 17 true 2 6,
oz (.del true [.i, .i] (.t 16) (.t 17)) 0]) (
sq ([
om 18 7,
om 19 18,
og 20 (fa 2 4) 19,
og 21 (.ld true 8 (.t 20)) 19,
og 22 (.call 210 [.t 21] 0 true) 19,
oo 23 (.pick (.t 19) (.t 22) (kb false)),
om 24 23,
og 25 (.ld true 3 (.t 2)) 24,
og 26 (fa 2 4) 24,
og 27 (.ld true 8 (.t 26)) 24,
og 28 (.call 211 [.t 25, .t 27] 0 true) 24,
oo 29 (.pick (.t 24) (.t 28) (kb false)),
om 30 29,
og 31 (fa 2 4) 30,
og 32 (.ld true 8 (.t 31)) 30,
og 33 (.call 192 [.t 32] 0 true) 30,
og 34 (.mkf 213 [] [.t 3, .t 2] true) 30,
og 35 (.call 212 [.t 33, .t 34] 4 true) 30,
oo 36 (.pick (.t 30) (.t 35) (kb false)),
om 5 36]) (
.ret))))), [.slot 5]⟩
def n209 : Notes := { anns := [], frz := [0, 0, 0, 0, 0, 0, 0, 0, 0, 0, 0, 0, 0, 0, 0, 0, 0, 0, 0, 0, 0, 0, 0, 0, 0, 0, 0, 0, 0, 0, 0, 0, 1], rgs := [] }
def c210 : CFn := ⟨sq ([
oo 1 (.box (.t 0)),
oo 2 (.mv (kb false))]) (
sq ([
ol 3 true 8 1,
oo 4 (.call 228 [.t 3, (ki 12)] 0 true),
om 2 4]) (
.ret)), [.slot 2]⟩
def n210 : Notes := { anns := [], frz := [], rgs := [] }
def c211 : CFn := ⟨sq ([
oo 2 (.box (.t 0)),
oo 3 (.box (.t 1)),
oo 4 (.mv (kb false))]) (
.seq (sq ([
oo 5 (fa 0 3),
ol 6 false 1 5,
ob 7 .eql (.t 6) (ki 2),
om 8 7,
oh 9 (fa 0 3) 8,
oh 10 (.ld false 1 (.t 9)) 8,
oh 11 (.bin .eql (.t 10) (ki 3)) 8,
oo 12 (.pick (.t 8) (kb true) (.t 11)),
om 13 12,
og 14 (fa 5 3) 13,
og 15 (.ld false 1 (.t 14)) 13,
og 16 (.bin .lss (.t 15) (ki 1)) 13,
og 17 (.mv (.t 16)) 13,
oh 18 (fa 5 3) 17,
oh 19 (.ld false 1 (.t 18)) 17,
oh 20 (fa 1 2) 17,
oh 21 (.ld false 1 (.t 20)) 17,
oh 22 (.len 0 (.t 21)) 17,
oh 23 (.bin .gtr (.t 19) (.t 22)) 17,
og 24 (.pick (.t 17) (kb true) (.t 23)) 13,
og 25 (.mv (.t 24)) 13,
oh 26 (fa 1 2) 25,
oh 27 (.ld false 1 (.t 26)) 25,
oh 28 (fa 5 3) 25,
oh 29 (.ld false 1 (.t 28)) 25,
oh 30 (.bin .sub (.t 29) (ki 1)) 25,
oh 31 (.ia 2 (.t 27) (.t 30)) 25,
oh 32 (fa 0 31) 25,
oh 33 (.ld false 1 (.t 32)) 25,
oh 34 (.un .not (.t 33)) 25,
og 35 (.pick (.t 25) (kb true) (.t 34)) 13,
oo 36 (.pick (.t 13) (.t 35) (kb false))]) (
ct 36 (
sq ([
oo 4 (.mv (kb false))]) (
.ret)) (.skip))) (
sq ([
oo 37 (fa 7 3),
ol 38 false 1 37,
oo 39 (.mkf 230 [] [.t 2] true),
oo 40 (.call 229 [.t 38, .t 39] 4 true),
oo 41 (.un .not (.t 40)),
om 4 41]) (
.ret))), [.slot 4]⟩
def n211 : Notes := { anns := [], frz := [0, 0, 0, 0, 0, 0, 0, 0, 0, 0, 0, 0, 0, 0, 0, 0, 0, 0, 0, 0, 0, 0, 0, 0, 0, 0, 0, 0, 0, 0, 0, 0, 0, 0, 0, 0, 0, 0, 1], rgs := [] }
def c212 : CFn := ⟨sq ([
oo 3 (.box (.t 1)),
oo 4 (.mv (kb false))]) (
sq ([
om 5 0,
oo 6 (.mkf 232 [] [.t 3] true),
oo 7 (.call 231 [.t 5, .t 6] 4 true),
oo 8 (.un .not (.t 7)),
om 4 8]) (
.ret)), [.slot 4]⟩
def n212 : Notes := { anns := [], frz := [0, 0, 0, 1], rgs := [] }
def c213 : CFn := ⟨sq ([
oo 3 (.box (.t 0)),
oo 4 (.mv (kb false))]) (
sq ([
ol 5 true 3 1,
ol 6 true 3 2,
ol 7 true 2 3,
oo 8 (.call 214 [.t 5, .t 6, .t 7] 0 true),
om 4 8]) (
.ret)), [.slot 4]⟩
def n213 : Notes := { anns := [], frz := [], rgs := [] }
def c214 : CFn := ⟨sq ([
oo 3 (.box (.t 0)),
oo 4 (.box (.t 1)),
oo 5 (.box (.t 2)),
oo 6 (.mv (kb false))]) (
sq ([
ol 10 true 3 4,
oo 11 (.iaa 2 1 (.t 5) (ki 0)),
ol 12 false 1 11,
oo 13 (.call 225 [.t 10, .t 12] 0 true),
om 9 13,
oo 14 (.ext (.t 9) 0),
oo 15 (.ext (.t 9) 1),
om 7 14,
om 8 15]) (
.seq (.region true [
om 16 8,
ow 17 (.mv (.t 16)) 1,
⟨some 18, .iaa 2 1 (.t 5) (ki 1), (some (17, true)), 3⟩,
⟨some 19, .ld false 1 (.t 18), (some (17, true)), 7⟩,
⟨some 20, .bin .geq (.t 19) (ki 0), (some (17, true)), 15⟩,
ow 21 (.pick (.t 17) (.t 20) (kb false)) 31,
ow 22 (.mv (.t 21)) 63,
⟨some 23, .iaa 2 1 (.t 5) (ki 1), (some (22, true)), 127⟩,
⟨some 24, .ld false 1 (.t 23), (some (22, true)), 255⟩,
⟨some 25, .ld true 3 (.t 3), (some (22, true)), 127⟩,
⟨some 26, .mv (.t 7), (some (22, true)), 127⟩,
⟨some 27, .call 181 [.t 25, .t 26] 0 true, (some (22, true)), 1663⟩,
⟨some 28, .bin .lss (.t 24) (.t 27), (some (22, true)), 4095⟩,
ow 29 (.pick (.t 22) (.t 28) (kb false)) 8191,
ow 30 (.mv (.t 29)) 16383,
⟨some 31, .ld true 3 (.t 3), (some (30, true)), 32767⟩,
⟨some 32, .mv (.t 7), (some (30, true)), 32767⟩,
⟨some 33, .iaa 2 1 (.t 5) (ki 1), (some (30, true)), 32767⟩,
⟨some 34, .ld false 1 (.t 33), (some (30, true)), 163839⟩,
⟨some 35, .call 182 [.t 31, .t 32, .t 34] 0 true, (some (30, true)), 524287⟩,
⟨some 36, .iaa 2 1 (.t 5) (ki 0), (some (30, true)), 32767⟩,
⟨some 37, .ld false 1 (.t 36), (some (30, true)), 1081343⟩,
⟨some 38, .bin .eql (.t 37) (ki 0), (some (30, true)), 3178495⟩,
⟨some 39, .eqb false (.t 35) (.t 38), (some (30, true)), 8388607⟩,
ow 40 (.pick (.t 30) (.t 39) (kb false)) 16777215,
ow 6 (.mv (.t 40)) 33554431]) (
.ret))), [.slot 6]⟩
def n214 : Notes := { anns := [], frz := [], rgs := [] }
def c216 : CFn := ⟨sq ([
oo 4 (.mv (.k (.nil 1)))]) (
.seq (sq ([
om 5 1,
ob 6 .lss (.t 5) (ki 0)]) (
ct 6 (
.region false [
oo 7 (.die),
oz (.die) 0]) (.skip))) (
.seq (sq ([
om 8 1,
om 9 0,
oo 10 (.capn (.t 9)),
om 11 0,
oo 12 (.len 0 (.t 11)),
ob 13 .sub (.t 10) (.t 12),
ob 14 .sub (.t 8) (.t 13),
om 1 14]) (
sq ([
om 15 1,
ob 16 .gtr (.t 15) (ki 0)]) (
ct 16 (
.region false [
om 17 0,
om 18 0,
oo 19 (.capn (.t 18)),
oo 20 (.slc 1 (.t 17) none (some (.t 19))),
om 21 1,
oo 22 (.apz 1 16 [(.s [])] (.t 20) (.t 21)),
om 23 0,
oo 24 (.len 0 (.t 23)),
oo 25 (.slc 1 (.t 22) none (some (.t 24))),
om 0 25]) (.skip)))) (
sq ([
om 26 0,
om 4 26]) (
.ret)))), [.raw 4]⟩
def n216 : Notes := { anns := [], frz := [0, 0, 0, 0, 0, 0, 0, 0, 0, 0, 0, 0, 0, 0, 0, 0, 0, 0, 0, 0, 1], rgs := [], raw := true }
def c217 : CFn := ⟨sq ([
oo 2 (.mv (kb false))]) (
sq ([
oo 6 (.mkm),
om 3 6]) (
.seq (sq ([
om 7 0,
oo 8 (.len 0 (.t 7)),
oo 9 (.mv (ki 0))]) (
.block 0 (.loop ⟨[3, 7, 8, 9], [], [], [], [], true⟩ (sq ([
ob 10 .lss (.t 9) (.t 8)]) (
.seq (ct 10 (
.skip) (.exit 0)) (
.seq (.block 1 (sq ([
oo 11 (.ia 1 (.t 7) (.t 9)),
ol 12 false 1 11,
om 5 12]) (
.seq (sq ([
om 13 3,
om 14 5,
oo 15 (.lk false [.s] false (.d (.b false)) (.t 13) (.t 14))]) (
ct 15 (
sq ([
oo 2 (.mv (kb false))]) (
.ret)) (.skip))) (
.region false [
om 16 3,
om 17 5,
oz (.mu false [.s] (.t 16) (.t 17) (kb true)) 0])))) (
.region false [
ob 18 .add (.t 9) (ki 1),
om 9 18]))))))) (
sq ([
oo 2 (.mv (kb true))]) (
.ret)))), [.slot 2]⟩
def n217 : Notes := { anns := [⟨[3, 7, 8, 9], [], [], [], [], true⟩], frz := [], rgs := [] }
def c218 : CFn := ⟨sq ([
oo 4 (.mv (kb false))]) (
sq ([
om 5 0,
om 6 1,
oo 7 (.call 233 [.t 5, .t 6] 4 true),
ob 8 .geq (.t 7) (ki 0),
om 4 8]) (
.ret)), [.slot 4]⟩
def n218 : Notes := { anns := [], frz := [], rgs := [] }
def c219 : CFn := ⟨sq ([
oo 2 (.mv (kb false))]) (
sq ([
om 3 0,
oo 4 (.call 220 [.t 3] 0 true),
oo 5 (.un .not (.t 4)),
om 2 5]) (
.ret)), [.slot 2]⟩
def n219 : Notes := { anns := [], frz := [], rgs := [] }
def c220 : CFn := ⟨sq ([
oo 2 (.mv (kb false))]) (
.seq (sq ([
om 5 0,
oo 6 (.len 1 (.t 5)),
ob 7 .lss (.t 6) (ki 1),
om 8 7,
oh 9 (.mv (.t 0)) 8,
oh 10 (.len 1 (.t 9)) 8,
oh 11 (.bin .gtr (.t 10) (ki 8)) 8,
oo 12 (.pick (.t 8) (kb true) (.t 11))]) (
ct 12 (
sq ([
oo 2 (.mv (kb false))]) (
.ret)) (.skip))) (
.seq (sq ([
om 13 0,
oo 14 (.len 1 (.t 13)),
oo 15 (.mv (ki 0))]) (
.block 0 (.loop ⟨[0, 14, 15], [], [], [], [], true⟩ (sq ([
ob 16 .lss (.t 15) (.t 14)]) (
.seq (ct 16 (
.skip) (.exit 0)) (
.seq (.block 1 (sq ([
om 17 15,
om 3 17]) (
sq ([
om 18 0,
om 19 3,
oo 20 (.ixs (.t 18) (.t 19)),
oo 21 (.bin .geq (.t 20) (.k (.d (.i .u8 97)))),
om 22 21,
og 23 (.mv (.t 0)) 22,
og 24 (.mv (.t 3)) 22,
og 25 (.ixs (.t 23) (.t 24)) 22,
og 26 (.bin .leq (.t 25) (.k (.d (.i .u8 122)))) 22,
oo 27 (.pick (.t 22) (.t 26) (kb false)),
om 4 27]) (
sq ([
om 28 4,
oo 29 (.un .not (.t 28)),
om 30 29,
og 31 (.mv (.t 3)) 30,
og 32 (.bin .eql (.t 31) (ki 0)) 30,
og 33 (.mv (.t 32)) 30,
oh 34 (.mv (.t 0)) 33,
oh 35 (.mv (.t 3)) 33,
oh 36 (.ixs (.t 34) (.t 35)) 33,
oh 37 (.bin .lss (.t 36) (.k (.d (.i .u8 48)))) 33,
og 38 (.pick (.t 33) (kb true) (.t 37)) 30,
og 39 (.mv (.t 38)) 30,
oh 40 (.mv (.t 0)) 39,
oh 41 (.mv (.t 3)) 39,
oh 42 (.ixs (.t 40) (.t 41)) 39,
oh 43 (.bin .gtr (.t 42) (.k (.d (.i .u8 57)))) 39,
og 44 (.pick (.t 39) (kb true) (.t 43)) 30,
oo 45 (.pick (.t 30) (.t 44) (kb false))]) (
ct 45 (
sq ([
oo 2 (.mv (kb false))]) (
.ret)) (.skip)))))) (
.region false [
ob 46 .add (.t 15) (ki 1),
om 15 46]))))))) (
sq ([
oo 2 (.mv (kb true))]) (
.ret)))), [.slot 2]⟩
def n220 : Notes := { anns := [⟨[0, 14, 15], [], [], [], [], true⟩], frz := [], rgs := [] }
def c221 : CFn := ⟨sq ([
oo 4 (.mv (ki 0))]) (
.seq (sq ([
om 6 0,
oo 7 (.len 0 (.t 6)),
oo 8 (.mv (ki 0))]) (
.block 0 (.loop ⟨[0, 1, 7, 8], [], [], [], [], true⟩ (sq ([
ob 9 .lss (.t 8) (.t 7)]) (
.seq (ct 9 (
.skip) (.exit 0)) (
.seq (.block 1 (sq ([
om 10 8,
om 5 10]) (
sq ([
om 11 1,
om 12 0,
om 13 5,
oo 14 (.ia 3 (.t 12) (.t 13)),
ol 15 true 3 14,
oo 16 (.callv (.t 11) [.t 15] 4 true)]) (
ct 16 (
sq ([
om 17 5,
om 4 17]) (
.ret)) (.skip))))) (
.region false [
ob 18 .add (.t 8) (ki 1),
om 8 18]))))))) (
sq ([
oo 4 (.mv (.k (.d (.i .i64 (-1)))))]) (
.ret))), [.slot 4]⟩
def n221 : Notes := { anns := [⟨[0, 1, 7, 8], [], [], [], [], true⟩], frz := [], rgs := [] }
def c222 : CFn := ⟨sq ([
oo 4 (.mv (kb false))]) (
sq ([
om 5 0,
om 6 1,
oo 7 (.call 234 [.t 5, .t 6] 4 true),
ob 8 .geq (.t 7) (ki 0),
om 4 8]) (
.ret)), [.slot 4]⟩
def n222 : Notes := { anns := [], frz := [], rgs := [] }
def c223 : CFn := ⟨sq ([
oo 2 (.box (.t 0)),
oo 3 (.mv (kb false))]) (
sq ([
ol 4 true 3 1,
ol 5 true 2 2,
oo 6 (.call 224 [.t 4, .t 5] 0 true),
oo 7 (.un .not (.t 6)),
om 3 7]) (
.ret)), [.slot 3]⟩
def n223 : Notes := { anns := [], frz := [], rgs := [] }
def c224 : CFn := ⟨sq ([
oo 2 (.box (.t 0)),
oo 3 (.box (.t 1)),
oo 4 (.mv (kb false))]) (
.seq (sq ([
oo 5 (fa 0 3),
ol 6 false 1 5]) (
ct 6 (
sq ([
oo 7 (fa 1 3),
ol 8 false 1 7,
ob 9 .geq (.t 8) (ki 0),
om 10 9,
og 11 (fa 1 3) 10,
og 12 (.ld false 1 (.t 11)) 10,
og 13 (fa 0 2) 10,
og 14 (.ld false 1 (.t 13)) 10,
og 15 (.len 0 (.t 14)) 10,
og 16 (.bin .lss (.t 12) (.t 15)) 10,
oo 17 (.pick (.t 10) (.t 16) (kb false)),
om 18 17,
og 19 (fa 0 2) 18,
og 20 (.ld false 1 (.t 19)) 18,
og 21 (fa 1 3) 18,
og 22 (.ld false 1 (.t 21)) 18,
og 23 (.ia 3 (.t 20) (.t 22)) 18,
og 24 (fa 2 23) 18,
og 25 (.ld false 1 (.t 24)) 18,
og 26 (.un .not (.t 25)) 18,
oo 27 (.pick (.t 18) (.t 26) (kb false)),
om 4 27]) (
.ret)) (.skip))) (
sq ([
oo 28 (fa 1 3),
ol 29 false 1 28,
ob 30 .geq (.t 29) (ki 0),
om 31 30,
og 32 (fa 1 3) 31,
og 33 (.ld false 1 (.t 32)) 31,
og 34 (fa 1 2) 31,
og 35 (.ld false 1 (.t 34)) 31,
og 36 (.len 0 (.t 35)) 31,
og 37 (.bin .lss (.t 33) (.t 36)) 31,
oo 38 (.pick (.t 31) (.t 37) (kb false)),
om 4 38]) (
.ret))), [.slot 4]⟩
def n224 : Notes := { anns := [], frz := [], rgs := [] }
def c225 : CFn := ⟨sq ([
oo 2 (.box (.t 0)),
oo 4 (.mv (ki 0)),
oo 5 (.mv (kb false))]) (
.seq (.block 0 (sq ([
om 7 1,
ob 8 .eql (.t 7) (ki 0),
om 6 8]) (
ct 6 (
sq ([
oo 9 (fa 0 2),
ol 10 false 1 9,
om 4 10,
oo 5 (.mv (kb true))]) (
.ret)) (sq ([
om 12 1,
ob 13 .lss (.t 12) (ki 0),
om 14 13,
oh 15 (.mv (.t 1)) 14,
oh 16 (fa 1 2) 14,
oh 17 (.ld false 1 (.t 16)) 14,
oh 18 (.len 0 (.t 17)) 14,
oh 19 (.bin .gtr (.t 15) (.t 18)) 14,
oo 20 (.pick (.t 14) (kb true) (.t 19)),
om 21 20,
oh 22 (fa 1 2) 21,
oh 23 (.ld false 1 (.t 22)) 21,
oh 24 (.mv (.t 1)) 21,
oh 25 (.bin .sub (.t 24) (ki 1)) 21,
oh 26 (.ia 2 (.t 23) (.t 25)) 21,
oh 27 (fa 0 26) 21,
oh 28 (.ld false 1 (.t 27)) 21,
oo 29 (.pick (.t 21) (kb true) (.t 28)),
om 11 29]) (
ct 11 (
sq ([
oo 4 (.mv (ki 0)),
oo 5 (.mv (kb false))]) (
.ret)) (.skip)))))) (
sq ([
oo 30 (fa 1 2),
ol 31 false 1 30,
om 32 1,
ob 33 .sub (.t 32) (ki 1),
oo 34 (.ia 2 (.t 31) (.t 33)),
oo 35 (fa 1 34),
ol 36 false 1 35,
om 4 36,
oo 5 (.mv (kb true))]) (
.ret))), [.slot 4, .slot 5]⟩
def n225 : Notes := { anns := [], frz := [], rgs := [] }
def c226 : CFn := ⟨sq ([
oo 4 (.mv (kb false))]) (
sq ([
om 5 0,
om 6 1,
oo 7 (.call 235 [.t 5, .t 6] 4 true),
ob 8 .geq (.t 7) (ki 0),
om 4 8]) (
.ret)), [.slot 4]⟩
def n226 : Notes := { anns := [], frz := [], rgs := [] }
def c227 : CFn := ⟨sq ([
oo 2 (.box (.t 0)),
oo 3 (.mv (kb false))]) (
sq ([
ol 4 false 1 1,
ol 5 true 10 2,
oo 6 (.callv (.t 4) [.t 5] 4 true),
oo 7 (.un .not (.t 6)),
om 3 7]) (
.ret)), [.slot 3]⟩
def n227 : Notes := { anns := [], frz := [], rgs := [] }
def c228 : CFn := ⟨sq ([
oo 2 (.box (.t 0)),
oo 3 (.box (.t 1)),
oo 4 (.mv (kb false))]) (
sq ([
oo 6 (fa 0 2),
ol 7 false 1 6,
oo 8 (.call 236 [.t 7] 0 true),
om 5 8]) (
.seq (sq ([
ol 9 false 1 3,
ob 10 .lss (.t 9) (ki 1),
om 11 10,
oh 12 (.mv (.t 5)) 11,
oh 13 (.bin .eql (.t 12) (.k (.d (.i .i64 (-2))))) 11,
oo 14 (.pick (.t 11) (kb true) (.t 13)),
om 15 14,
oh 16 (.mv (.t 5)) 15,
oh 17 (.bin .geq (.t 16) (ki 0)) 15,
oh 18 (.mv (.t 17)) 15,
og 19 (fa 7 2) 18,
og 20 (.ld false 1 (.t 19)) 18,
og 21 (.len 0 (.t 20)) 18,
og 22 (.mv (.t 5)) 18,
og 23 (.bin .neq (.t 21) (.t 22)) 18,
oh 24 (.pick (.t 18) (.t 23) (kb false)) 15,
oo 25 (.pick (.t 15) (kb true) (.t 24)),
om 26 25,
oh 27 (fa 7 2) 26,
oh 28 (.ld false 1 (.t 27)) 26,
oh 29 (.len 0 (.t 28)) 26,
oh 30 (.bin .gtr (.t 29) (ki 4)) 26,
oo 31 (.pick (.t 26) (kb true) (.t 30)),
om 32 31,
oh 33 (.ld true 8 (.t 2)) 32,
oh 34 (.call 237 [.t 33] 0 true) 32,
oh 35 (.un .not (.t 34)) 32,
oo 36 (.pick (.t 32) (kb true) (.t 35))]) (
ct 36 (
sq ([
oo 4 (.mv (kb false))]) (
.ret)) (.skip))) (
sq ([
oo 37 (fa 7 2),
ol 38 false 1 37,
oo 39 (.mkf 238 [] [.t 3] true),
oo 40 (.call 229 [.t 38, .t 39] 4 true),
oo 41 (.un .not (.t 40)),
om 4 41]) (
.ret)))), [.slot 4]⟩
def n228 : Notes := { anns := [], frz := [0, 0, 0, 0, 0, 0, 0, 0, 0, 0, 0, 0, 0, 0, 0, 0, 0, 0, 0, 0, 0, 0, 0, 0, 0, 0, 0, 0, 0, 0, 0, 0, 0, 0, 0, 0, 0, 0, 1], rgs := [] }
def c229 : CFn := ⟨sq ([
oo 4 (.mv (kb false))]) (
sq ([
om 5 0,
om 6 1,
oo 7 (.call 239 [.t 5, .t 6] 4 true),
ob 8 .geq (.t 7) (ki 0),
om 4 8]) (
.ret)), [.slot 4]⟩
def n229 : Notes := { anns := [], frz := [], rgs := [] }
def c230 : CFn := ⟨sq ([
oo 2 (.box (.t 0)),
oo 3 (.mv (kb false))]) (
sq ([
ol 4 true 3 1,
ol 5 true 8 2,
oo 6 (.call 211 [.t 4, .t 5] 0 true),
oo 7 (.un .not (.t 6)),
om 3 7]) (
.ret)), [.slot 3]⟩
def n230 : Notes := { anns := [], frz := [], rgs := [] }
def c231 : CFn := ⟨sq ([
oo 4 (.mv (kb false))]) (
sq ([
om 5 0,
om 6 1,
oo 7 (.call 240 [.t 5, .t 6] 4 true),
ob 8 .geq (.t 7) (ki 0),
om 4 8]) (
.ret)), [.slot 4]⟩
def n231 : Notes := { anns := [], frz := [], rgs := [] }
def c232 : CFn := ⟨sq ([
oo 2 (.box (.t 0)),
oo 3 (.mv (kb false))]) (
sq ([
ol 4 false 1 1,
ol 5 true 2 2,
oo 6 (.callv (.t 4) [.t 5] 4 true),
oo 7 (.un .not (.t 6)),
om 3 7]) (
.ret)), [.slot 3]⟩
def n232 : Notes := { anns := [], frz := [], rgs := [] }
def c233 : CFn := ⟨sq ([
oo 4 (.mv (ki 0))]) (
.seq (sq ([
om 6 0,
oo 7 (.len 0 (.t 6)),
oo 8 (.mv (ki 0))]) (
.block 0 (.loop ⟨[0, 1, 7, 8], [], [], [], [], true⟩ (sq ([
ob 9 .lss (.t 8) (.t 7)]) (
.seq (ct 9 (
.skip) (.exit 0)) (
.seq (.block 1 (sq ([
om 10 8,
om 5 10]) (
sq ([
om 11 1,
om 12 0,
om 13 5,
oo 14 (.ia 1 (.t 12) (.t 13)),
ol 15 false 1 14,
oo 16 (.callv (.t 11) [.t 15] 4 true)]) (
ct 16 (
sq ([
om 17 5,
om 4 17]) (
.ret)) (.skip))))) (
.region false [
ob 18 .add (.t 8) (ki 1),
om 8 18]))))))) (
sq ([
oo 4 (.mv (.k (.d (.i .i64 (-1)))))]) (
.ret))), [.slot 4]⟩
def n233 : Notes := { anns := [⟨[0, 1, 7, 8], [], [], [], [], true⟩], frz := [], rgs := [] }
def c234 : CFn := ⟨sq ([
oo 4 (.mv (ki 0))]) (
.seq (sq ([
om 6 0,
oo 7 (.len 0 (.t 6)),
oo 8 (.mv (ki 0))]) (
.block 0 (.loop ⟨[0, 1, 7, 8], [], [], [], [], true⟩ (sq ([
ob 9 .lss (.t 8) (.t 7)]) (
.seq (ct 9 (
.skip) (.exit 0)) (
.seq (.block 1 (sq ([
om 10 8,
om 5 10]) (
sq ([
om 11 1,
om 12 0,
om 13 5,
oo 14 (.ia 2 (.t 12) (.t 13)),
ol 15 true 2 14,
oo 16 (.callv (.t 11) [.t 15] 4 true)]) (
ct 16 (
sq ([
om 17 5,
om 4 17]) (
.ret)) (.skip))))) (
.region false [
ob 18 .add (.t 8) (ki 1),
om 8 18]))))))) (
sq ([
oo 4 (.mv (.k (.d (.i .i64 (-1)))))]) (
.ret))), [.slot 4]⟩
def n234 : Notes := { anns := [⟨[0, 1, 7, 8], [], [], [], [], true⟩], frz := [], rgs := [] }
def c235 : CFn := ⟨sq ([
oo 4 (.mv (ki 0))]) (
.seq (sq ([
om 6 0,
oo 7 (.len 0 (.t 6)),
oo 8 (.mv (ki 0))]) (
.block 0 (.loop ⟨[0, 1, 7, 8], [], [], [], [], true⟩ (sq ([
ob 9 .lss (.t 8) (.t 7)]) (
.seq (ct 9 (
.skip) (.exit 0)) (
.seq (.block 1 (sq ([
om 10 8,
om 5 10]) (
sq ([
om 11 1,
om 12 0,
om 13 5,
oo 14 (.ia 10 (.t 12) (.t 13)),
ol 15 true 10 14,
oo 16 (.callv (.t 11) [.t 15] 4 true)]) (
ct 16 (
sq ([
om 17 5,
om 4 17]) (
.ret)) (.skip))))) (
.region false [
ob 18 .add (.t 8) (ki 1),
om 8 18]))))))) (
sq ([
oo 4 (.mv (.k (.d (.i .i64 (-1)))))]) (
.ret))), [.slot 4]⟩
def n235 : Notes := { anns := [⟨[0, 1, 7, 8], [], [], [], [], true⟩], frz := [], rgs := [] }
def c236 : CFn := ⟨sq ([
oo 2 (.mv (ki 0))]) (
.seq (sq ([
om 3 0]) (
.block 0 (.seq (sq ([
ob 5 .eql (.t 3) (ki 0),
om 4 5]) (
ct 4 (
.skip) (sq ([
ob 6 .eql (.t 3) (ki 1),
om 4 6]) (
ct 4 (
.skip) (sq ([
ob 7 .eql (.t 3) (ki 2),
om 4 7]) (
ct 4 (
.skip) (sq ([
ob 8 .eql (.t 3) (ki 3),
om 4 8]) (
ct 4 (
.skip) (sq ([
ob 9 .eql (.t 3) (ki 21),
om 4 9]) (
ct 4 (
.skip) (.region false [
ob 10 .eql (.t 3) (ki 22),
om 4 10]))))))))))) (
ct 4 (
sq ([
oo 2 (.mv (ki 0))]) (
.ret)) (.seq (sq ([
ob 12 .eql (.t 3) (ki 11),
om 11 12]) (
ct 11 (
.skip) (.region false [
ob 13 .eql (.t 3) (ki 15),
om 11 13]))) (
ct 11 (
sq ([
oo 2 (.mv (ki 1))]) (
.ret)) (.seq (sq ([
ob 15 .eql (.t 3) (ki 12),
om 14 15]) (
ct 14 (
.skip) (.region false [
ob 16 .eql (.t 3) (ki 16),
om 14 16]))) (
ct 14 (
sq ([
oo 2 (.mv (ki 3))]) (
.ret)) (sq ([
ob 18 .eql (.t 3) (ki 14),
om 17 18]) (
ct 17 (
sq ([
oo 2 (.mv (.k (.d (.i .i64 (-1)))))]) (
.ret)) (.skip))))))))))) (
.seq (sq ([
om 19 0,
ob 20 .gtr (.t 19) (ki 3),
om 21 20,
og 22 (.mv (.t 0)) 21,
og 23 (.bin .lss (.t 22) (ki 21)) 21,
oo 24 (.pick (.t 21) (.t 23) (kb false))]) (
ct 24 (
sq ([
oo 2 (.mv (ki 2))]) (
.ret)) (.skip))) (
sq ([
oo 2 (.mv (.k (.d (.i .i64 (-2)))))]) (
.ret)))), [.slot 2]⟩
def n236 : Notes := { anns := [], frz := [], rgs := [] }
def c237 : CFn := ⟨sq ([
oo 1 (.box (.t 0)),
oo 2 (.mv (kb false))]) (
.seq (sq ([
oo 5 (fa 0 1),
ol 6 false 1 5,
ob 7 .eql (.t 6) (ki 0)]) (
ct 7 (
sq ([
oo 8 (fa 1 1),
oo 9 (fa 0 8),
ol 10 false 1 9,
ob 11 .neq (.t 10) (ki 7),
om 12 11,
og 13 (fa 1 1) 12,
og 14 (.ld true 4 (.t 13)) 12,
og 15 (.call 111 [.t 14] 0 true) 12,
oo 16 (.pick (.t 12) (.t 15) (kb false)),
om 17 16,
og 18 (fa 5 1) 17,
og 19 (.ld false 1 (.t 18)) 17,
og 20 (.bin .eql (.t 19) (ki 0)) 17,
oo 21 (.pick (.t 17) (.t 20) (kb false)),
om 22 21,
og 23 (fa 6 1) 22,
og 24 (.ld false 1 (.t 23)) 22,
og 25 (.bin .eql (.t 24) (ki 0)) 22,
oo 26 (.pick (.t 22) (.t 25) (kb false)),
om 2 26]) (
.ret)) (.skip))) (
sq ([
oo 3 (.mv (ki 0)),
oo 4 (.mv (ki 0))]) (
.seq (sq ([
oo 27 (fa 0 1),
ol 28 false 1 27]) (
.block 0 (sq ([
ob 30 .eql (.t 28) (ki 1),
om 29 30]) (
ct 29 (
.region false [
oo 3 (.mv (ki 5)),
oo 4 (.mv (ki 7))]) (.seq (sq ([
ob 32 .eql (.t 28) (ki 2),
om 31 32]) (
ct 31 (
.skip) (.region false [
ob 33 .eql (.t 28) (ki 3),
om 31 33]))) (
ct 31 (
.region false [
oo 3 (.mv (ki 5))]) (.skip))))))) (
sq ([
oo 34 (fa 1 1),
ol 35 true 4 34,
oo 36 (.call 241 [.t 35] 0 true),
om 37 36,
og 38 (fa 5 1) 37,
og 39 (.ld false 1 (.t 38)) 37,
og 40 (.bin .geq (.t 39) (ki 0)) 37,
oo 41 (.pick (.t 37) (.t 40) (kb false)),
om 42 41,
og 43 (fa 5 1) 42,
og 44 (.ld false 1 (.t 43)) 42,
og 45 (.mv (.t 3)) 42,
og 46 (.bin .leq (.t 44) (.t 45)) 42,
oo 47 (.pick (.t 42) (.t 46) (kb false)),
om 48 47,
og 49 (fa 6 1) 48,
og 50 (.ld false 1 (.t 49)) 48,
og 51 (.bin .geq (.t 50) (ki 0)) 48,
oo 52 (.pick (.t 48) (.t 51) (kb false)),
om 53 52,
og 54 (fa 6 1) 53,
og 55 (.ld false 1 (.t 54)) 53,
og 56 (.mv (.t 4)) 53,
og 57 (.bin .leq (.t 55) (.t 56)) 53,
oo 58 (.pick (.t 53) (.t 57) (kb false)),
om 2 58]) (
.ret))))), [.slot 2]⟩
def n237 : Notes := { anns := [], frz := [], rgs := [] }
def c238 : CFn := ⟨sq ([
oo 2 (.box (.t 0)),
oo 3 (.mv (kb false))]) (
sq ([
ol 4 true 8 2,
ol 5 false 1 1,
ob 6 .sub (.t 5) (ki 1),
oo 7 (.call 228 [.t 4, .t 6] 0 true),
oo 8 (.un .not (.t 7)),
om 3 8]) (
.ret)), [.slot 3]⟩
def n238 : Notes := { anns := [], frz := [], rgs := [] }
def c239 : CFn := ⟨sq ([
oo 4 (.mv (ki 0))]) (
.seq (sq ([
om 6 0,
oo 7 (.len 0 (.t 6)),
oo 8 (.mv (ki 0))]) (
.block 0 (.loop ⟨[0, 1, 7, 8], [], [], [], [], true⟩ (sq ([
ob 9 .lss (.t 8) (.t 7)]) (
.seq (ct 9 (
.skip) (.exit 0)) (
.seq (.block 1 (sq ([
om 10 8,
om 5 10]) (
sq ([
om 11 1,
om 12 0,
om 13 5,
oo 14 (.ia 8 (.t 12) (.t 13)),
ol 15 true 8 14,
oo 16 (.callv (.t 11) [.t 15] 4 true)]) (
ct 16 (
sq ([
om 17 5,
om 4 17]) (
.ret)) (.skip))))) (
.region false [
ob 18 .add (.t 8) (ki 1),
om 8 18]))))))) (
sq ([
oo 4 (.mv (.k (.d (.i .i64 (-1)))))]) (
.ret))), [.slot 4]⟩
def n239 : Notes := { anns := [⟨[0, 1, 7, 8], [], [], [], [], true⟩], frz := [], rgs := [] }
def c240 : CFn := ⟨sq ([
oo 4 (.mv (ki 0))]) (
.seq (sq ([
om 6 0,
oo 7 (.len 0 (.t 6)),
oo 8 (.mv (ki 0))]) (
.block 0 (.loop ⟨[0, 1, 7, 8], [], [], [], [], true⟩ (sq ([
ob 9 .lss (.t 8) (.t 7)]) (
.seq (ct 9 (
.skip) (.exit 0)) (
.seq (.block 1 (sq ([
om 10 8,
om 5 10]) (
sq ([
om 11 1,
om 12 0,
om 13 5,
oo 14 (.ia 2 (.t 12) (.t 13)),
ol 15 true 2 14,
oo 16 (.callv (.t 11) [.t 15] 4 true)]) (
ct 16 (
sq ([
om 17 5,
om 4 17]) (
.ret)) (.skip))))) (
.region false [
ob 18 .add (.t 8) (ki 1),
om 8 18]))))))) (
sq ([
oo 4 (.mv (.k (.d (.i .i64 (-1)))))]) (
.ret))), [.slot 4]⟩
def n240 : Notes := { anns := [⟨[0, 1, 7, 8], [], [], [], [], true⟩], frz := [], rgs := [] }
def c241 : CFn := ⟨sq ([
oo 1 (.box (.t 0)),
oo 2 (.mv (kb false))]) (
sq ([
oo 3 (fa 0 1),
ol 4 false 1 3,
ob 5 .eql (.t 4) (ki 0),
om 6 5,
og 7 (fa 1 1) 6,
og 8 (.ld false 1 (.t 7)) 6,
og 9 (.bin .eql (.t 8) (ki 0)) 6,
oo 10 (.pick (.t 6) (.t 9) (kb false)),
om 11 10,
og 12 (fa 2 1) 11,
og 13 (.ld false 1 (.t 12)) 11,
og 14 (.bin .eql (.t 13) (.k (.d (.s [])))) 11,
oo 15 (.pick (.t 11) (.t 14) (kb false)),
om 16 15,
og 17 (fa 3 1) 16,
og 18 (.ld false 1 (.t 17)) 16,
og 19 (.len 0 (.t 18)) 16,
og 20 (.bin .eql (.t 19) (ki 0)) 16,
oo 21 (.pick (.t 16) (.t 20) (kb false)),
om 2 21]) (
.ret)), [.slot 2]⟩
def n241 : Notes := { anns := [], frz := [], rgs := [] }
def c366 : CFn := ⟨sq ([
oo 0 (.mv (kb false))]) (
.seq (sq ([
oo 25 (.call 368 [] 0 true),
oo 26 (.un .not (.t 25))]) (
ct 26 (
sq ([
oo 0 (.mv (kb false))]) (
.ret)) (.skip))) (
sq ([
oo 28 (.call 379 [(ki 0), (.k (.d (.s [55])))] 0 true),
om 27 28,
oo 29 (.ext (.t 27) 0),
oo 30 (.ext (.t 27) 1),
oo 31 (.ext (.t 27) 2),
oo 1 (.zero (.agg [(.nil 3), (.nil 3), (.nil 3)])),
oo 2 (.zero (.agg [(.nil 5), (.d (.i .i64 0))])),
oz (.st 3 (.t 1) (.t 29)) 0,
oz (.st 2 (.t 2) (.t 30)) 0,
om 3 31]) (
sq ([
ol 32 true 3 1,
ol 33 true 2 2,
oo 34 (.call 373 [.t 32, .t 33] 0 true),
om 4 34]) (
sq ([
oo 35 (.build [(.d (.i .i64 0)), (.d (.i .i64 0))] [(0, 1, (ki 1)), (1, 1, (ki 0))]),
oo 36 (.build [(.d (.i .i64 0)), (.d (.i .i64 0))] [(0, 1, (ki 1)), (1, 1, (ki 1))]),
oo 37 (.build [(.d (.i .i64 0)), (.d (.i .i64 0))] [(0, 1, (ki 2)), (1, 1, (ki 0))]),
oo 38 (.build [(.d (.i .i64 0)), (.d (.i .i64 0))] [(0, 1, (ki 2)), (1, 1, (ki 1))]),
oo 39 (.build [(.d (.i .i64 0)), (.d (.i .i64 0))] [(0, 1, (ki 3)), (1, 1, (ki 0))]),
oo 40 (.build [(.d (.i .i64 0)), (.d (.i .i64 0))] [(0, 1, (ki 3)), (1, 1, (ki 1))]),
oo 41 (.build [(.d (.i .i64 0)), (.d (.i .i64 0))] [(0, 1, (ki 3)), (1, 1, (ki 2))]),
oo 42 (.build [(.d (.i .i64 0)), (.d (.i .i64 0))] [(0, 1, (ki 5)), (1, 1, (ki 0))]),
oo 43 (.build [(.d (.i .i64 0)), (.d (.i .i64 0))] [(0, 1, (ki 5)), (1, 1, (ki 1))]),
oo 44 (.build [(.d (.i .i64 0)), (.d (.i .i64 0))] [(0, 1, (ki 5)), (1, 1, (ki 2))]),
oo 45 (.bsl 2 10 [(.i .i64 0), (.i .i64 0)] [(0, .t 35), (1, .t 36), (2, .t 37), (3, .t 38), (4, .t 39), (5, .t 40), (6, .t 41), (7, .t 42), (8, .t 43), (9, .t 44)]),
om 5 45]) (
sq ([
oo 46 (.build [(.d (.i .i64 0)), (.d (.i .i64 0))] [(0, 1, (ki 2)), (1, 1, (ki 1))]),
oo 47 (.bsl 2 1 [(.i .i64 0), (.i .i64 0)] [(0, .t 46)]),
oo 48 (.build [(.d (.i .i64 0)), (.d (.i .i64 0))] [(0, 1, (ki 2)), (1, 1, (ki 1))]),
oo 49 (.bsl 2 1 [(.i .i64 0), (.i .i64 0)] [(0, .t 48)]),
oo 50 (.build [(.d (.i .i64 0)), (.d (.i .i64 0))] [(0, 1, (ki 5)), (1, 1, (ki 2))]),
oo 51 (.bsl 2 1 [(.i .i64 0), (.i .i64 0)] [(0, .t 50)]),
oo 52 (.build [(.d (.i .i64 0)), (.d (.i .i64 0))] [(0, 1, (ki 2)), (1, 1, (ki 0))]),
oo 53 (.bsl 2 1 [(.i .i64 0), (.i .i64 0)] [(0, .t 52)]),
oo 54 (.build [(.d (.i .i64 0)), (.d (.i .i64 0))] [(0, 1, (ki 2)), (1, 1, (ki 0))]),
oo 55 (.bsl 2 1 [(.i .i64 0), (.i .i64 0)] [(0, .t 54)]),
oo 56 (.build [(.d (.i .i64 0)), (.d (.i .i64 0))] [(0, 1, (ki 3)), (1, 1, (ki 1))]),
oo 57 (.bsl 2 1 [(.i .i64 0), (.i .i64 0)] [(0, .t 56)]),
oo 58 (.build [(.d (.i .i64 0)), (.d (.i .i64 0))] [(0, 1, (ki 5)), (1, 1, (ki 1))]),
oo 59 (.bsl 2 1 [(.i .i64 0), (.i .i64 0)] [(0, .t 58)]),
oo 60 (.bsl 1 10 [(.l 2 [])] [(0, .t 47), (1, .t 49), (2, (.k (.nil 2))), (3, .t 51), (4, .t 53), (5, (.k (.nil 2))), (6, (.k (.nil 2))), (7, .t 55), (8, .t 57), (9, .t 59)]),
om 6 60]) (
sq ([
oo 61 (.bsl 1 10 [(.i .i64 0)] [(0, (ki 0)), (1, (ki 0)), (2, (ki 0)), (3, (ki 1)), (4, (ki 1)), (5, (ki 2)), (6, (ki 2)), (7, (ki 1)), (8, (ki 1)), (9, (ki 4))]),
om 7 61]) (
sq ([
oo 62 (.bsl 1 10 [(.i .i64 0)] [(0, (ki 1)), (1, (ki 2)), (2, (ki 0)), (3, (ki 3)), (4, (ki 0)), (5, (ki 0)), (6, (ki 1)), (7, (ki 1)), (8, (ki 2)), (9, (ki 0))]),
om 8 62]) (
.seq (sq ([
om 63 3,
oo 64 (.un .not (.t 63)),
om 65 64,
oh 66 (.mv (.t 4)) 65,
oh 67 (.mv (.t 5)) 65,
oh 68 (.call 372 [.t 66, .t 67] 0 true) 65,
oh 69 (.un .not (.t 68)) 65,
oo 70 (.pick (.t 65) (kb true) (.t 69))]) (
ct 70 (
sq ([
oo 0 (.mv (kb false))]) (
.ret)) (.skip))) (
.seq (sq ([
oo 9 (.mv (ki 0))]) (
.block 0 (.loop ⟨[1, 2, 5, 6, 7, 8, 9], [], [], [], [], true⟩ (.seq (sq ([
om 71 9,
om 72 5,
oo 73 (.len 0 (.t 72)),
ob 74 .lss (.t 71) (.t 73)]) (
ct 74 (
.skip) (.exit 0))) (
.seq (.block 1 (.seq (.region true [
ol 78 true 3 1,
ol 79 true 2 2,
om 80 5,
om 81 9,
ow 82 (.ia 2 (.t 80) (.t 81)) 12,
ow 83 (.iaa 2 1 (.t 82) (ki 0)) 28,
ow 84 (.ld false 1 (.t 83)) 60,
om 85 5,
om 86 9,
ow 87 (.ia 2 (.t 85) (.t 86)) 384,
ow 88 (.iaa 2 1 (.t 87) (ki 1)) 896,
ow 89 (.ld false 1 (.t 88)) 1920,
ow 90 (.call 374 [.t 78, .t 79, .t 84, .t 89] 0 true) 4095,
ow 77 (.mv (.t 90)) 8191,
ow 91 (.ext (.t 77) 0) 16383,
ow 92 (.ext (.t 77) 1) 16383,
ow 93 (.ext (.t 77) 2) 16383,
ow 10 (.mv (.t 91)) 32767,
ow 11 (.mv (.t 92)) 196607,
ow 12 (.mv (.t 93)) 524287]) (
.seq (.region true [
om 94 12,
ow 95 (.un .not (.t 94)) 1,
ow 96 (.mv (.t 95)) 3,
⟨some 97, .mv (.t 10), (some (96, false)), 7⟩,
⟨some 98, .mv (.t 7), (some (96, false)), 7⟩,
⟨some 99, .mv (.t 9), (some (96, false)), 7⟩,
⟨some 100, .ia 1 (.t 98) (.t 99), (some (96, false)), 55⟩,
⟨some 101, .ld false 1 (.t 100), (some (96, false)), 119⟩,
⟨some 102, .bin .neq (.t 97) (.t 101), (some (96, false)), 255⟩,
ow 103 (.pick (.t 96) (kb true) (.t 102)) 511,
ow 104 (.mv (.t 103)) 1023,
⟨some 105, .mv (.t 11), (some (104, false)), 2047⟩,
⟨some 106, .mv (.t 8), (some (104, false)), 2047⟩,
⟨some 107, .mv (.t 9), (some (104, false)), 2047⟩,
⟨some 108, .ia 1 (.t 106) (.t 107), (some (104, false)), 14335⟩,
⟨some 109, .ld false 1 (.t 108), (some (104, false)), 30719⟩,
⟨some 110, .bin .neq (.t 105) (.t 109), (some (104, false)), 65535⟩,
ow 111 (.pick (.t 104) (kb true) (.t 110)) 131071,
ow 112 (.mv (.t 111)) 262143,
⟨some 113, .ld true 3 (.t 1), (some (112, false)), 524287⟩,
⟨some 114, .ld true 2 (.t 2), (some (112, false)), 524287⟩,
⟨some 115, .mv (.t 5), (some (112, false)), 524287⟩,
⟨some 116, .mv (.t 9), (some (112, false)), 524287⟩,
⟨some 117, .ia 2 (.t 115) (.t 116), (some (112, false)), 6815743⟩,
⟨some 118, .iaa 2 1 (.t 117) (ki 0), (some (112, false)), 15204351⟩,
⟨some 119, .ld false 1 (.t 118), (some (112, false)), 31981567⟩,
⟨some 120, .mv (.t 5), (some (112, false)), 524287⟩,
⟨some 121, .mv (.t 9), (some (112, false)), 524287⟩,
⟨some 122, .ia 2 (.t 120) (.t 121), (some (112, false)), 201850879⟩,
⟨some 123, .iaa 2 1 (.t 122) (ki 1), (some (112, false)), 470286335⟩,
⟨some 124, .ld false 1 (.t 123), (some (112, false)), 1007157247⟩,
⟨some 125, .call 376 [.t 113, .t 114, .t 119, .t 124] 0 true, (some (112, false)), 2147483647⟩,
⟨some 126, .mv (.t 6), (some (112, false)), 524287⟩,
⟨some 127, .mv (.t 9), (some (112, false)), 524287⟩,
⟨some 128, .ia 1 (.t 126) (.t 127), (some (112, false)), 12885426175⟩,
⟨some 129, .ld false 1 (.t 128), (some (112, false)), 30065295359⟩,
⟨some 130, .call 372 [.t 125, .t 129] 0 true, (some (112, false)), 68719476735⟩,
⟨some 131, .un .not (.t 130), (some (112, false)), 137438953471⟩,
ow 132 (.pick (.t 112) (kb true) (.t 131)) 274877906943]) (
ct 132 (
sq ([
oo 0 (.mv (kb false))]) (
.ret)) (.skip))))) (
.region false [
om 75 9,
ob 76 .add (.t 75) (ki 1),
om 9 76])))))) (
sq ([
ol 134 true 3 1,
ol 135 true 2 2,
oo 136 (.call 374 [.t 134, .t 135, (ki 4), (ki 0)] 0 true),
om 133 136,
oo 137 (.ext (.t 133) 0),
oo 138 (.ext (.t 133) 1),
oo 139 (.ext (.t 133) 2),
om 13 137,
om 14 138,
om 15 139]) (
sq ([
ol 141 true 3 1,
ol 142 true 2 2,
oo 143 (.call 374 [.t 141, .t 142, (ki 3), (ki 3)] 0 true),
om 140 143,
oo 144 (.ext (.t 140) 0),
oo 145 (.ext (.t 140) 1),
oo 146 (.ext (.t 140) 2),
om 16 144,
om 17 145,
om 18 146]) (
sq ([
ol 148 true 3 1,
ol 149 true 2 2,
oo 150 (.call 374 [.t 148, .t 149, (ki 3), (.k (.d (.i .i64 (-1))))] 0 true),
om 147 150,
oo 151 (.ext (.t 147) 0),
oo 152 (.ext (.t 147) 1),
oo 153 (.ext (.t 147) 2),
om 19 151,
om 20 152,
om 21 153]) (
sq ([
ol 155 true 3 1,
ol 156 true 2 2,
oo 157 (.call 374 [.t 155, .t 156, (ki 6), (ki 0)] 0 true),
om 154 157,
oo 158 (.ext (.t 154) 0),
oo 159 (.ext (.t 154) 1),
oo 160 (.ext (.t 154) 2),
om 22 158,
om 23 159,
om 24 160]) (
sq ([
om 161 15,
oo 162 (.un .not (.t 161)),
om 163 162,
og 164 (.mv (.t 18)) 163,
og 165 (.un .not (.t 164)) 163,
oo 166 (.pick (.t 163) (.t 165) (kb false)),
om 167 166,
og 168 (.mv (.t 21)) 167,
og 169 (.un .not (.t 168)) 167,
oo 170 (.pick (.t 167) (.t 169) (kb false)),
om 171 170,
og 172 (.mv (.t 24)) 171,
og 173 (.un .not (.t 172)) 171,
oo 174 (.pick (.t 171) (.t 173) (kb false)),
om 175 174,
og 176 (.ld true 3 (.t 1)) 175,
og 177 (.ld true 2 (.t 2)) 175,
og 178 (.call 376 [.t 176, .t 177, (ki 4), (ki 0)] 0 true) 175,
og 179 (.len 0 (.t 178)) 175,
og 180 (.bin .eql (.t 179) (ki 0)) 175,
oo 181 (.pick (.t 175) (.t 180) (kb false)),
om 0 181]) (
.ret))))))))))))))), [.slot 0]⟩
def n366 : Notes := { anns := [⟨[1, 2, 5, 6, 7, 8, 9], [], [], [], [], true⟩], frz := [], rgs := [] }
def c368 : CFn := ⟨sq ([
oo 0 (.mv (kb false))]) (
sq ([
oo 13 (.call 370 [(ki 0), (.k (.nil 1)), (ki 1)] 0 true),
om 12 13,
oo 14 (.ext (.t 12) 0),
oo 15 (.ext (.t 12) 1),
oo 16 (.ext (.t 12) 2),
oo 1 (.zero (.agg [(.nil 3), (.nil 3), (.nil 3)])),
oo 2 (.zero (.agg [(.nil 5), (.d (.i .i64 0))])),
oz (.st 3 (.t 1) (.t 14)) 0,
oz (.st 2 (.t 2) (.t 15)) 0,
om 3 16]) (
sq ([
ol 17 true 3 1,
ol 18 true 2 2,
oo 19 (.call 373 [.t 17, .t 18] 0 true),
om 4 19]) (
sq ([
ol 21 true 3 1,
ol 22 true 2 2,
oo 23 (.call 374 [.t 21, .t 22, (ki 1), (ki 0)] 0 true),
om 20 23,
oo 24 (.ext (.t 20) 0),
oo 25 (.ext (.t 20) 1),
oo 26 (.ext (.t 20) 2),
om 5 24,
om 6 25,
om 7 26]) (
sq ([
ol 27 true 3 1,
ol 28 true 2 2,
oo 29 (.call 376 [.t 27, .t 28, (ki 1), (ki 0)] 0 true),
om 8 29]) (
sq ([
ol 31 true 3 1,
ol 32 true 2 2,
oo 33 (.call 374 [.t 31, .t 32, (ki 1), (ki 9)] 0 true),
om 30 33,
oo 34 (.ext (.t 30) 0),
oo 35 (.ext (.t 30) 1),
oo 36 (.ext (.t 30) 2),
om 9 34,
om 10 35,
om 11 36]) (
sq ([
om 37 3,
om 38 37,
og 39 (.mv (.t 4)) 38,
og 40 (.len 0 (.t 39)) 38,
og 41 (.bin .gtr (.t 40) (ki 5)) 38,
oo 42 (.pick (.t 38) (.t 41) (kb false)),
om 43 42,
og 44 (.mv (.t 4)) 43,
og 45 (.ia 2 (.t 44) (ki 0)) 43,
og 46 (.ld true 2 (.t 45)) 43,
og 47 (.build [(.d (.i .i64 0)), (.d (.i .i64 0))] [(0, 1, (ki 1)), (1, 1, (ki 0))]) 43,
og 48 (.eqa [.i, .i] false (.t 46) (.t 47)) 43,
oo 49 (.pick (.t 43) (.t 48) (kb false)),
om 50 49,
og 51 (.mv (.t 7)) 50,
oo 52 (.pick (.t 50) (.t 51) (kb false)),
om 53 52,
og 54 (.mv (.t 5)) 53,
og 55 (.bin .eql (.t 54) (ki 0)) 53,
oo 56 (.pick (.t 53) (.t 55) (kb false)),
om 57 56,
og 58 (.mv (.t 6)) 57,
og 59 (.bin .eql (.t 58) (ki 1)) 57,
oo 60 (.pick (.t 57) (.t 59) (kb false)),
om 61 60,
og 62 (.mv (.t 8)) 61,
og 63 (.len 0 (.t 62)) 61,
og 64 (.bin .eql (.t 63) (ki 1)) 61,
oo 65 (.pick (.t 61) (.t 64) (kb false)),
om 66 65,
og 67 (.mv (.t 8)) 66,
og 68 (.ia 2 (.t 67) (ki 0)) 66,
og 69 (.ld true 2 (.t 68)) 66,
og 70 (.build [(.d (.i .i64 0)), (.d (.i .i64 0))] [(0, 1, (ki 2)), (1, 1, (ki 1))]) 66,
og 71 (.eqa [.i, .i] false (.t 69) (.t 70)) 66,
oo 72 (.pick (.t 66) (.t 71) (kb false)),
om 73 72,
og 74 (.mv (.t 11)) 73,
og 75 (.un .not (.t 74)) 73,
oo 76 (.pick (.t 73) (.t 75) (kb false)),
om 77 76,
og 78 (.ld true 3 (.t 1)) 77,
og 79 (.build [(.nil 5), (.d (.i .i64 0))] []) 77,
og 80 (.call 373 [.t 78, .t 79] 0 true) 77,
og 81 (.len 0 (.t 80)) 77,
og 82 (.bin .eql (.t 81) (ki 0)) 77,
oo 83 (.pick (.t 77) (.t 82) (kb false)),
om 0 83]) (
.ret))))))), [.slot 0]⟩
def n368 : Notes := { anns := [], frz := [], rgs := [] }
def c370 : CFn := ⟨sq ([
oo 6 (.zero (.agg [(.nil 3), (.nil 3), (.nil 3)])),
oo 7 (.zero (.agg [(.nil 5), (.d (.i .i64 0))])),
oo 8 (.mv (kb false))]) (
sq ([
om 15 0,
oo 16 (.call 170 [.t 15] 0 true),
oo 9 (.zero (.agg [(.nil 3), (.nil 3), (.nil 3)])),
oz (.st 3 (.t 9) (.t 16)) 0]) (
sq ([
ol 18 true 3 9,
oo 19 (.call 380 [.t 18] 0 true),
om 17 19,
oo 20 (.ext (.t 17) 0),
oo 21 (.ext (.t 17) 1),
om 10 20,
om 11 21]) (
.seq (.region true [
ol 23 true 3 9,
om 24 10,
ol 25 true 3 9,
om 26 1,
ow 27 (.call 108 [.t 26] 4 true) 8,
ow 28 (.call 384 [.t 27, (ki 2)] 4 true) 24,
ow 29 (.call 383 [.t 25, .t 28] 0 true) 60,
om 30 2,
ow 31 (.call 381 [.t 23, .t 24, .t 29, .t 30] 0 true) 255,
ow 22 (.mv (.t 31)) 511,
ow 32 (.ext (.t 22) 0) 1023,
ow 33 (.ext (.t 22) 1) 1023,
ow 34 (.ext (.t 22) 2) 1023,
oo 12 (.zero (.agg [(.nil 5), (.d (.i .i64 0))])),
oz (.st 2 (.t 12) (.t 32)) 10239,
ow 13 (.mv (.t 33)) 28671,
ow 14 (.mv (.t 34)) 65535]) (
.seq (.region true [
ol 35 true 3 9,
ol 36 true 2 12,
om 37 14,
ow 38 (.bin .eql (.t 37) (ki 0)) 4,
oz (.st 3 (.t 6) (.t 35)) 1,
oz (.st 2 (.t 7) (.t 36)) 19,
ow 8 (.mv (.t 38)) 63]) (
.ret))))), [.cell 6 true 3, .cell 7 true 2, .slot 8]⟩
def n370 : Notes := { anns := [], frz := [], rgs := [] }
def c372 : CFn := ⟨sq ([
oo 4 (.mv (kb false))]) (
.seq (sq ([
om 6 0,
oo 7 (.len 0 (.t 6)),
om 8 1,
oo 9 (.len 0 (.t 8)),
ob 10 .neq (.t 7) (.t 9)]) (
ct 10 (
sq ([
oo 4 (.mv (kb false))]) (
.ret)) (.skip))) (
.seq (sq ([
oo 5 (.mv (ki 0))]) (
.block 0 (.loop ⟨[0, 1, 5], [], [], [], [], true⟩ (.seq (sq ([
om 11 5,
om 12 0,
oo 13 (.len 0 (.t 12)),
ob 14 .lss (.t 11) (.t 13)]) (
ct 14 (
.skip) (.exit 0))) (
.seq (.block 1 (.seq (.region true [
om 17 0,
om 18 5,
ow 19 (.ia 2 (.t 17) (.t 18)) 3,
ow 20 (.ld true 2 (.t 19)) 7,
om 21 1,
om 22 5,
ow 23 (.ia 2 (.t 21) (.t 22)) 48,
ow 24 (.ld true 2 (.t 23)) 112,
ow 25 (.eqa [.i, .i] true (.t 20) (.t 24)) 255]) (
ct 25 (
sq ([
oo 4 (.mv (kb false))]) (
.ret)) (.skip)))) (
.region false [
om 15 5,
ob 16 .add (.t 15) (ki 1),
om 5 16])))))) (
sq ([
oo 4 (.mv (kb true))]) (
.ret)))), [.slot 4]⟩
def n372 : Notes := { anns := [⟨[0, 1, 5], [], [], [], [], true⟩], frz := [], rgs := [] }
def c373 : CFn := ⟨sq ([
oo 2 (.box (.t 0)),
oo 3 (.box (.t 1)),
oo 4 (.zero (.nil 2))]) (
.seq (sq ([
ol 7 true 3 2,
ol 8 true 2 3,
oo 9 (.call 387 [.t 7, .t 8] 0 true),
oo 10 (.un .not (.t 9))]) (
ct 10 (
sq ([
oz (.st 1 (.t 4) (.k (.nil 2))) 0]) (
.ret)) (.skip))) (
.seq (sq ([
ol 11 true 2 3,
oo 12 (.call 388 [.t 11] 4 true)]) (
.block 0 (.range [(4, 0)] (.t 12) 10373 [2, 4] 4))) (
sq ([
ol 34 false 1 4,
oz (.st 1 (.t 4) (.t 34)) 0]) (
.ret)))), [.cell 4 false 1]⟩
def n373 : Notes := { anns := [], frz := [], rgs := [(10373, [2, 4], 4, [(4, 0)])] }
def c374 : CFn := ⟨sq ([
oo 4 (.box (.t 0)),
oo 5 (.box (.t 1)),
oo 8 (.mv (ki 0)),
oo 9 (.mv (ki 0)),
oo 10 (.mv (kb false))]) (
.seq (sq ([
ol 11 true 3 4,
ol 12 true 2 5,
oo 13 (.call 387 [.t 11, .t 12] 0 true),
oo 14 (.un .not (.t 13))]) (
ct 14 (
sq ([
oo 8 (.mv (ki 0)),
oo 9 (.mv (ki 0)),
oo 10 (.mv (kb false))]) (
.ret)) (.skip))) (
sq ([
ol 15 true 3 4,
ol 16 true 2 5,
om 17 2,
om 18 3,
oo 19 (.call 389 [.t 15, .t 16, .t 17, .t 18] 0 true),
oo 20 (.ext (.t 19) 0),
oo 21 (.ext (.t 19) 1),
oo 22 (.ext (.t 19) 2),
om 8 20,
om 9 21,
om 10 22]) (
.ret))), [.slot 8, .slot 9, .slot 10]⟩
def n374 : Notes := { anns := [], frz := [], rgs := [] }
def c376 : CFn := ⟨sq ([
oo 4 (.box (.t 0)),
oo 5 (.box (.t 1)),
oo 8 (.mv (.k (.nil 2)))]) (
sq ([
ol 17 true 3 4,
ol 18 true 2 5,
om 19 2,
om 20 3,
oo 21 (.call 374 [.t 17, .t 18, .t 19, .t 20] 0 true),
om 16 21,
oo 22 (.ext (.t 16) 0),
oo 23 (.ext (.t 16) 1),
oo 24 (.ext (.t 16) 2),
om 9 22,
om 10 23,
om 11 24]) (
.seq (sq ([
om 25 11,
oo 26 (.un .not (.t 25))]) (
ct 26 (
sq ([
oo 8 (.mv (.k (.nil 2)))]) (
.ret)) (.skip))) (
sq ([
oo 27 (fa 0 5),
ol 28 false 1 27,
om 29 9,
oo 30 (.ia 5 (.t 28) (.t 29)),
ol 31 true 5 30,
oo 12 (.zero (.agg [(.d (.i .i64 0)), (.d (.i .i64 0)), (.d (.i .i64 0)), (.d (.s [])), (.nil 1)])),
oz (.st 5 (.t 12) (.t 31)) 0]) (
.seq (sq ([
oo 32 (fa 2 4),
ol 33 false 1 32,
oo 34 (fa 1 12),
ol 35 false 1 34,
oo 36 (.ia 3 (.t 33) (.t 35)),
oo 37 (fa 2 36),
ol 38 false 1 37,
om 39 10,
oo 40 (.ia 10 (.t 38) (.t 39)),
oo 41 (fa 2 40),
ol 42 true 8 41,
oo 43 (.call 192 [.t 42] 0 true),
oo 44 (.len 0 (.t 43)),
oo 45 (.mv (ki 0))]) (
.block 0 (.loop ⟨[8, 12, 43, 44, 45], [8], [], [], [], true⟩ (sq ([
ob 46 .lss (.t 45) (.t 44)]) (
.seq (ct 46 (
.skip) (.exit 0)) (
.seq (.block 1 (sq ([
oo 47 (.ia 2 (.t 43) (.t 45)),
ol 48 true 2 47,
oo 14 (.zero (.agg [(.d (.i .i64 0)), (.d (.i .i64 0))])),
oz (.st 2 (.t 14) (.t 48)) 0]) (
sq ([
oo 49 (fa 0 12),
ol 50 false 1 49,
oo 51 (.iaa 2 1 (.t 14) (ki 1)),
ol 52 false 1 51,
oo 53 (.build [(.d (.i .i64 0)), (.d (.i .i64 0))] [(0, 1, .t 50), (1, 1, .t 52)]),
oo 15 (.zero (.agg [(.d (.i .i64 0)), (.d (.i .i64 0))])),
oz (.st 2 (.t 15) (.t 53)) 0]) (
.seq (sq ([
oo 54 (.iaa 2 1 (.t 14) (ki 0)),
ol 55 false 1 54,
ob 56 .gtr (.t 55) (ki 0)]) (
ct 56 (
.region false [
oo 57 (fa 4 12),
ol 58 false 1 57,
oo 59 (.iaa 2 1 (.t 14) (ki 0)),
ol 60 false 1 59,
ob 61 .sub (.t 60) (ki 1),
oo 62 (.ia 1 (.t 58) (.t 61)),
ol 63 false 1 62,
oo 64 (.iaa 2 1 (.t 15) (ki 0)),
oz (.st 1 (.t 64) (.t 63)) 0]) (.skip))) (
sq ([
om 65 8,
ol 66 true 2 15,
oo 67 (.call 391 [.t 65, .t 66] 0 true),
oo 68 (.un .not (.t 67))]) (
ct 68 (
.region false [
om 69 8,
ol 70 true 2 15,
oo 71 (.bsl 2 1 [(.i .i64 0), (.i .i64 0)] [(0, .t 70)]),
oo 72 (.app 2 16 (.t 69) (.t 71)),
om 8 72]) (.skip))))))) (
.region false [
ob 73 .add (.t 45) (ki 1),
om 45 73]))))))) (
sq ([
om 74 8,
om 8 74]) (
.ret)))))), [.slot 8]⟩
def n376 : Notes := { anns := [⟨[8, 12, 43, 44, 45], [8], [], [], [], true⟩], frz := [], rgs := [] }
def c379 : CFn := ⟨sq ([
oo 4 (.zero (.agg [(.nil 3), (.nil 3), (.nil 3)])),
oo 5 (.zero (.agg [(.nil 5), (.d (.i .i64 0))])),
oo 6 (.mv (kb false))]) (
sq ([
om 13 0,
oo 14 (.call 170 [.t 13] 0 true),
oo 7 (.zero (.agg [(.nil 3), (.nil 3), (.nil 3)])),
oz (.st 3 (.t 7) (.t 14)) 0]) (
sq ([
ol 16 true 3 7,
oo 17 (.call 380 [.t 16] 0 true),
om 15 17,
oo 18 (.ext (.t 15) 0),
oo 19 (.ext (.t 15) 1),
om 8 18,
om 9 19]) (
.seq (.region true [
ol 21 true 3 7,
om 22 8,
ol 23 true 3 7,
om 24 1,
ow 25 (.call 383 [.t 23, .t 24] 0 true) 12,
ow 26 (.call 381 [.t 21, .t 22, .t 25, (ki 1)] 0 true) 31,
ow 20 (.mv (.t 26)) 63,
ow 27 (.ext (.t 20) 0) 127,
ow 28 (.ext (.t 20) 1) 127,
ow 29 (.ext (.t 20) 2) 127,
oo 10 (.zero (.agg [(.nil 5), (.d (.i .i64 0))])),
oz (.st 2 (.t 10) (.t 27)) 1279,
ow 11 (.mv (.t 28)) 3583,
ow 12 (.mv (.t 29)) 8191]) (
.seq (.region true [
ol 30 true 3 7,
ol 31 true 2 10,
om 32 12,
ow 33 (.bin .eql (.t 32) (ki 0)) 4,
oz (.st 3 (.t 4) (.t 30)) 1,
oz (.st 2 (.t 5) (.t 31)) 19,
ow 6 (.mv (.t 33)) 63]) (
.ret))))), [.cell 4 true 3, .cell 5 true 2, .slot 6]⟩
def n379 : Notes := { anns := [], frz := [], rgs := [] }
def c380 : CFn := ⟨sq ([
oo 1 (.box (.t 0)),
oo 2 (.mv (.k (.nil 1))),
oo 3 (.mv (.k (.nil 4)))]) (
.seq (sq ([
ol 12 true 3 1,
oo 13 (.call 393 [.t 12] 0 true),
oo 14 (.un .not (.t 13))]) (
ct 14 (
sq ([
oo 2 (.mv (.k (.nil 1))),
oo 3 (.mv (.k (.nil 4)))]) (
.ret)) (.skip))) (
sq ([
ol 15 true 3 1,
oo 16 (.call 394 [.t 15] 0 true),
oo 4 (.zero (.agg [(.nil 1), (.nil 1), (.nil 1)])),
oz (.st 3 (.t 4) (.t 16)) 0]) (
sq ([
oo 5 (.mv (.k (.nil 1)))]) (
sq ([
oo 6 (.mv (.k (.nil 4)))]) (
.seq (sq ([
oo 7 (.mv (ki 0))]) (
.block 0 (.loop ⟨[1, 4, 5, 6, 7], [6, 5], [], [], [], true⟩ (.seq (sq ([
om 17 7,
oo 18 (fa 1 1),
ol 19 false 1 18,
oo 20 (.len 0 (.t 19)),
ob 21 .lss (.t 17) (.t 20)]) (
ct 21 (
.skip) (.exit 0))) (
.seq (.block 1 (sq ([
oo 8 (.mv (.k (.nil 1)))]) (
.seq (sq ([
oo 9 (.mv (ki 0))]) (
.block 2 (.loop ⟨[1, 4, 5, 6, 7, 8, 9], [6, 8], [], [], [], true⟩ (.seq (sq ([
om 24 9,
oo 25 (fa 0 1),
ol 26 false 1 25,
oo 27 (.len 0 (.t 26)),
ob 28 .leq (.t 24) (.t 27)]) (
ct 28 (
.skip) (.exit 2))) (
.seq (.block 3 (sq ([
oo 10 (.mv (.k (.d (.i .i64 (-1)))))]) (
.seq (sq ([
oo 11 (.mv (ki 0))]) (
.block 4 (.loop ⟨[1, 4, 5, 6, 7, 8, 9, 10, 11], [6], [], [], [], true⟩ (.seq (sq ([
om 31 11,
oo 32 (fa 2 1),
ol 33 false 1 32,
oo 34 (.len 0 (.t 33)),
ob 35 .lss (.t 31) (.t 34)]) (
ct 35 (
.skip) (.exit 4))) (
.seq (.block 5 (.seq (sq ([
oo 38 (fa 2 1),
ol 39 false 1 38,
om 40 11,
oo 41 (.ia 3 (.t 39) (.t 40)),
oo 42 (fa 0 41),
ol 43 false 1 42,
om 44 7,
ob 45 .neq (.t 43) (.t 44),
om 46 45,
oh 47 (.ld true 3 (.t 4)) 46,
oh 48 (.ld true 3 (.t 1)) 46,
oh 49 (.mv (.t 11)) 46,
oh 50 (.mv (.t 9)) 46,
oh 51 (.call 395 [.t 47, .t 48, .t 49, .t 50] 0 true) 46,
oh 52 (.un .not (.t 51)) 46,
oo 53 (.pick (.t 46) (kb true) (.t 52))]) (
ct 53 (
.exit 5) (.skip))) (
sq ([
om 54 10,
ob 55 .lss (.t 54) (ki 0)]) (
ct 55 (
.region false [
om 56 11,
om 10 56]) (.region false [
om 57 6,
om 58 7,
om 59 9,
om 60 10,
om 61 11,
oo 62 (.build [(.d (.i .i64 0)), (.d (.i .i64 0)), (.d (.i .i64 0)), (.d (.i .i64 0))] [(0, 1, .t 58), (1, 1, .t 59), (2, 1, .t 60), (3, 1, .t 61)]),
oo 63 (.bsl 4 1 [(.i .i64 0), (.i .i64 0), (.i .i64 0), (.i .i64 0)] [(0, .t 62)]),
oo 64 (.app 4 32 (.t 57) (.t 63)),
om 6 64]))))) (
.region false [
om 36 11,
ob 37 .add (.t 36) (ki 1),
om 11 37])))))) (
.region false [
om 65 8,
om 66 10,
oo 67 (.bsl 1 1 [(.i .i64 0)] [(0, .t 66)]),
oo 68 (.app 1 8 (.t 65) (.t 67)),
om 8 68])))) (
.region false [
om 29 9,
ob 30 .add (.t 29) (ki 1),
om 9 30])))))) (
.region false [
om 69 5,
om 70 8,
oo 71 (.bsl 1 1 [(.l 1 [])] [(0, .t 70)]),
oo 72 (.app 1 24 (.t 69) (.t 71)),
om 5 72])))) (
.region false [
om 22 7,
ob 23 .add (.t 22) (ki 1),
om 7 23])))))) (
sq ([
om 73 5,
om 74 6,
om 2 73,
om 3 74]) (
.ret))))))), [.slot 2, .slot 3]⟩
def n380 : Notes := { anns := [⟨[1, 4, 5, 6, 7], [6, 5], [], [], [], true⟩, ⟨[1, 4, 5, 6, 7, 8, 9], [6, 8], [], [], [], true⟩, ⟨[1, 4, 5, 6, 7, 8, 9, 10, 11], [6], [], [], [], true⟩], frz := [], rgs := [] }
def c381 : CFn := ⟨sq ([
oo 4 (.box (.t 0)),
oo 8 (.zero (.agg [(.nil 5), (.d (.i .i64 0))])),
oo 9 (.mv (ki 0)),
oo 10 (.mv (ki 0))]) (
.seq (sq ([
om 12 3,
ob 13 .lss (.t 12) (ki 1),
om 14 13,
oh 15 (.ld true 3 (.t 4)) 14,
oh 16 (.call 393 [.t 15] 0 true) 14,
oh 17 (.un .not (.t 16)) 14,
oo 18 (.pick (.t 14) (kb true) (.t 17))]) (
ct 18 (
sq ([
oo 19 (.build [(.nil 5), (.d (.i .i64 0))] []),
oz (.st 2 (.t 8) (.t 19)) 0,
oo 9 (.mv (ki 0)),
oo 10 (.mv (ki 1))]) (
.ret)) (.skip))) (
sq ([
ol 20 true 3 4,
om 21 1,
om 22 2,
oo 23 (.build [(.nil 3), (.nil 3), (.nil 3), (.nil 1), (.nil 2), (.d (.i .i64 0)), (.nil 5), (.d (.i .i64 0)), (.d (.i .i64 0))] [(0, 3, .t 20), (3, 1, .t 21), (4, 1, .t 22)]),
oo 24 (.box (.t 23)),
om 11 24]) (
sq ([
om 25 11,
om 26 3,
oo 27 (.nilc (.t 25)),
oo 28 (fa 6 27),
oo 29 (fa 1 28),
oz (.st 1 (.t 29) (.t 26)) 0]) (
sq ([
om 30 11,
oo 31 (.build [(.d (.b false)), (.d (.i .i64 0))] []),
oo 32 (.call 396 [.t 30, .t 31] 4 true)]) (
.seq (sq ([
om 33 11,
oo 34 (.nilc (.t 33)),
oo 35 (fa 8 34),
ol 36 false 1 35,
ob 37 .eql (.t 36) (ki 0),
om 38 37,
og 39 (.mv (.t 11)) 38,
og 40 (.nilc (.t 39)) 38,
og 41 (fa 5 40) 38,
og 42 (.ld false 1 (.t 41)) 38,
og 43 (.mv (.t 2)) 38,
og 44 (.len 0 (.t 43)) 38,
og 45 (.bin .lss (.t 42) (.t 44)) 38,
oo 46 (.pick (.t 38) (.t 45) (kb false))]) (
ct 46 (
.region false [
om 47 11,
oo 48 (.nilc (.t 47)),
oo 49 (fa 8 48),
oz (.st 1 (.t 49) (ki 9)) 0]) (.skip))) (
.seq (sq ([
om 50 11,
oo 51 (.nilc (.t 50)),
oo 52 (fa 8 51),
ol 53 false 1 52,
ob 54 .eql (.t 53) (ki 9)]) (
ct 54 (
.seq (.region true [
oo 55 (.build [(.nil 5), (.d (.i .i64 0))] []),
om 56 11,
ow 57 (.nilc (.t 56)) 2,
ow 58 (fa 5 57) 6,
ow 59 (.ld false 1 (.t 58)) 14,
om 60 11,
ow 61 (.nilc (.t 60)) 32,
ow 62 (fa 8 61) 96,
ow 63 (.ld false 1 (.t 62)) 224,
oz (.st 2 (.t 8) (.t 55)) 1,
ow 9 (.mv (.t 59)) 543,
ow 10 (.mv (.t 63)) 2047]) (
.ret)) (.skip))) (
.seq (sq ([
om 64 11,
oo 65 (.nilc (.t 64)),
oo 66 (fa 8 65),
ol 67 false 1 66,
ob 68 .neq (.t 67) (ki 0)]) (
ct 68 (
.seq (.region true [
oo 69 (.build [(.nil 5), (.d (.i .i64 0))] []),
om 70 11,
ow 71 (.nilc (.t 70)) 2,
ow 72 (fa 8 71) 6,
ow 73 (.ld false 1 (.t 72)) 14,
oz (.st 2 (.t 8) (.t 69)) 1,
ow 9 (.mv (ki 0)) 33,
ow 10 (.mv (.t 73)) 127]) (
.ret)) (.skip))) (
sq ([
om 74 11,
oo 75 (.nilc (.t 74)),
oo 76 (fa 6 75),
ol 77 true 2 76,
oz (.st 2 (.t 8) (.t 77)) 0,
oo 9 (.mv (ki 0)),
oo 10 (.mv (ki 0))]) (
.ret))))))))), [.cell 8 true 2, .slot 9, .slot 10]⟩
def n381 : Notes := { anns := [], frz := [], rgs := [] }
def c383 : CFn := ⟨sq ([
oo 2 (.box (.t 0)),
oo 4 (.mv (.k (.nil 2)))]) (
sq ([
oo 8 (fa 0 2),
ol 9 false 1 8,
oo 10 (.call 398 [.t 9] 0 true),
om 7 10,
oo 11 (.ext (.t 7) 0),
oo 12 (.ext (.t 7) 1),
om 5 11,
om 6 12]) (
.seq (.region true [
oo 13 (fa 0 2),
ow 14 (.ld false 1 (.t 13)) 1,
om 15 5,
om 16 1,
ow 17 (.call 400 [.t 15, .t 16] 0 true) 12,
om 18 1,
ow 19 (.call 399 [.t 14, .t 17, .t 18] 0 true) 63,
ow 4 (.mv (.t 19)) 127]) (
.ret))), [.slot 4]⟩
def n383 : Notes := { anns := [], frz := [], rgs := [] }
def c384 : CFn := ⟨sq ([
oo 4 (.mv (.k (.d (.s []))))]) (
sq ([
om 7 0,
om 8 1,
oo 9 (.call 401 [.t 7, .t 8] 4 true),
om 5 9]) (
.seq (sq ([
om 10 0,
oo 11 (.call 123 [.t 10, (ki 3)] 4 true),
om 6 11]) (
.block 0 (.loop ⟨[0, 1, 5, 6], [], [], [], [], true⟩ (.seq (sq ([
om 12 6,
ob 13 .gtr (.t 12) (ki 0)]) (
ct 13 (
.skip) (.exit 0))) (
.seq (.block 1 (.region false [
om 16 5,
oo 17 (.bin .add (.t 16) (.k (.d (.s [43])))),
om 18 0,
om 19 1,
oo 20 (.call 401 [.t 18, .t 19] 4 true),
ob 21 .add (.t 17) (.t 20),
om 5 21])) (
.region false [
om 14 6,
ob 15 .sub (.t 14) (ki 1),
om 6 15])))))) (
sq ([
om 22 5,
om 4 22]) (
.ret)))), [.slot 4]⟩
def n384 : Notes := { anns := [⟨[0, 1, 5, 6], [], [], [], [], true⟩], frz := [], rgs := [] }
def c387 : CFn := ⟨sq ([
oo 2 (.box (.t 0)),
oo 3 (.box (.t 1)),
oo 4 (.mv (kb false))]) (
sq ([
ol 5 true 3 2,
oo 6 (.call 169 [.t 5] 0 true),
om 7 6,
og 8 (.ld true 3 (.t 2)) 7,
og 9 (.ld true 2 (.t 3)) 7,
og 10 (.call 404 [.t 8, .t 9] 0 true) 7,
oo 11 (.pick (.t 7) (.t 10) (kb false)),
om 4 11]) (
.ret)), [.slot 4]⟩
def n387 : Notes := { anns := [], frz := [], rgs := [] }
def c388 : CFn := ⟨sq ([
oo 1 (.box (.t 0)),
oo 2 (.mv (.k (.d .nf)))]) (
sq ([
oo 3 (.mkf 405 [] [.t 1] true),
om 2 3]) (
.ret)), [.slot 2]⟩
def n388 : Notes := { anns := [], frz := [0, 0, 1], rgs := [] }
def c389 : CFn := ⟨sq ([
oo 4 (.box (.t 0)),
oo 5 (.box (.t 1)),
oo 8 (.mv (ki 0)),
oo 9 (.mv (ki 0)),
oo 10 (.mv (kb false))]) (
sq ([
ol 15 true 2 5,
om 16 2,
oo 17 (.call 406 [.t 15, .t 16] 0 true),
om 14 17,
oo 18 (.ext (.t 14) 0),
oo 19 (.ext (.t 14) 1),
om 8 18,
om 11 19]) (
.seq (sq ([
om 20 11,
oo 21 (.un .not (.t 20)),
om 22 21,
oh 23 (fa 0 5) 22,
oh 24 (.ld false 1 (.t 23)) 22,
oh 25 (.mv (.t 8)) 22,
oh 26 (.ia 5 (.t 24) (.t 25)) 22,
oh 27 (fa 1 26) 22,
oh 28 (.ld false 1 (.t 27)) 22,
oh 29 (.bin .lss (.t 28) (ki 0)) 22,
oo 30 (.pick (.t 22) (kb true) (.t 29))]) (
ct 30 (
sq ([
oo 8 (.mv (ki 0)),
oo 9 (.mv (ki 0)),
oo 10 (.mv (kb false))]) (
.ret)) (.skip))) (
sq ([
oo 12 (.mv (ki 0))]) (
.seq (.seq (.region true [
oo 31 (fa 2 4),
ow 32 (.ld false 1 (.t 31)) 1,
oo 33 (fa 0 5),
ow 34 (.ld false 1 (.t 33)) 4,
om 35 8,
ow 36 (.ia 5 (.t 34) (.t 35)) 28,
ow 37 (fa 1 36) 60,
ow 38 (.ld false 1 (.t 37)) 124,
ow 39 (.ia 3 (.t 32) (.t 38)) 255,
ow 40 (fa 0 39) 511,
ow 41 (.ld false 1 (.t 40)) 1023,
ow 13 (.mv (.t 41)) 2047]) (
sq ([
ol 42 true 3 4,
om 43 13,
om 44 3,
oo 45 (.call 182 [.t 42, .t 43, .t 44] 0 true)]) (
ct 45 (
sq ([
ol 47 true 2 5,
om 48 2,
oo 49 (.call 407 [.t 47, .t 48] 0 true),
om 46 49,
oo 50 (.ext (.t 46) 0),
oo 51 (.ext (.t 46) 1),
oo 52 (.ext (.t 46) 2),
om 8 50,
om 12 51,
om 10 52]) (
sq ([
om 53 10,
oo 54 (.un .not (.t 53))]) (
ct 54 (
sq ([
oo 8 (.mv (ki 0)),
oo 9 (.mv (ki 0)),
oo 10 (.mv (kb false))]) (
.ret)) (.skip)))) (.skip)))) (
.seq (.seq (.region true [
oo 56 (fa 2 4),
ow 57 (.ld false 1 (.t 56)) 1,
oo 58 (fa 0 5),
ow 59 (.ld false 1 (.t 58)) 4,
om 60 8,
ow 61 (.ia 5 (.t 59) (.t 60)) 28,
ow 62 (fa 1 61) 60,
ow 63 (.ld false 1 (.t 62)) 124,
ow 64 (.ia 3 (.t 57) (.t 63)) 255,
ow 65 (.ld true 3 (.t 64)) 511,
om 66 12,
om 67 3,
ow 68 (.call 408 [.t 65, .t 66, .t 67] 0 true) 4095,
ow 55 (.mv (.t 68)) 8191,
ow 69 (.ext (.t 55) 0) 16383,
ow 70 (.ext (.t 55) 1) 16383,
ow 9 (.mv (.t 69)) 32767,
ow 10 (.mv (.t 70)) 131071]) (
sq ([
om 71 10,
oo 72 (.un .not (.t 71))]) (
ct 72 (
sq ([
oo 8 (.mv (ki 0)),
oo 9 (.mv (ki 0)),
oo 10 (.mv (kb false))]) (
.ret)) (.skip)))) (
sq ([
om 73 8,
om 74 9,
om 8 73,
om 9 74,
oo 10 (.mv (kb true))]) (
.ret))))))), [.slot 8, .slot 9, .slot 10]⟩
def n389 : Notes := { anns := [], frz := [], rgs := [] }
def c391 : CFn := ⟨sq ([
oo 3 (.box (.t 1)),
oo 4 (.mv (kb false))]) (
sq ([
om 5 0,
ol 6 true 2 3,
oo 7 (.call 410 [.t 5, .t 6] 0 true),
ob 8 .geq (.t 7) (ki 0),
om 4 8]) (
.ret)), [.slot 4]⟩
def n391 : Notes := { anns := [], frz := [], rgs := [] }
def c393 : CFn := ⟨sq ([
oo 1 (.box (.t 0)),
oo 2 (.mv (kb false))]) (
.seq (sq ([
oo 11 (fa 0 1),
ol 12 false 1 11,
oo 13 (.len 0 (.t 12)),
ob 14 .lss (.t 13) (ki 1),
om 15 14,
oh 16 (fa 0 1) 15,
oh 17 (.ld false 1 (.t 16)) 15,
oh 18 (.len 0 (.t 17)) 15,
oh 19 (.bin .gtr (.t 18) (ki 8)) 15,
oo 20 (.pick (.t 15) (kb true) (.t 19)),
om 21 20,
oh 22 (fa 1 1) 21,
oh 23 (.ld false 1 (.t 22)) 21,
oh 24 (.len 0 (.t 23)) 21,
oh 25 (.bin .lss (.t 24) (ki 1)) 21,
oo 26 (.pick (.t 21) (kb true) (.t 25)),
om 27 26,
oh 28 (fa 1 1) 27,
oh 29 (.ld false 1 (.t 28)) 27,
oh 30 (.len 0 (.t 29)) 27,
oh 31 (.bin .gtr (.t 30) (ki 8)) 27,
oo 32 (.pick (.t 27) (kb true) (.t 31)),
om 33 32,
oh 34 (fa 2 1) 33,
oh 35 (.ld false 1 (.t 34)) 33,
oh 36 (.len 0 (.t 35)) 33,
oh 37 (.bin .lss (.t 36) (ki 1)) 33,
oo 38 (.pick (.t 33) (kb true) (.t 37)),
om 39 38,
oh 40 (fa 2 1) 39,
oh 41 (.ld false 1 (.t 40)) 39,
oh 42 (.len 0 (.t 41)) 39,
oh 43 (.bin .gtr (.t 42) (ki 16)) 39,
oo 44 (.pick (.t 39) (kb true) (.t 43))]) (
ct 44 (
sq ([
oo 2 (.mv (kb false))]) (
.ret)) (.skip))) (
sq ([
oo 3 (.mv (.k (.nil 1)))]) (
.seq (sq ([
oo 4 (.mv (ki 0))]) (
.block 0 (.loop ⟨[1, 3, 4], [3], [], [], [], true⟩ (.seq (sq ([
om 45 4,
oo 46 (fa 0 1),
ol 47 false 1 46,
oo 48 (.len 0 (.t 47)),
ob 49 .lss (.t 45) (.t 48)]) (
ct 49 (
.skip) (.exit 0))) (
.seq (.block 1 (.region false [
om 52 3,
oo 53 (fa 0 1),
ol 54 false 1 53,
om 55 4,
oo 56 (.ia 3 (.t 54) (.t 55)),
oo 57 (fa 0 56),
ol 58 false 1 57,
oo 59 (.bsl 1 1 [(.s [])] [(0, .t 58)]),
oo 60 (.app 1 16 (.t 52) (.t 59)),
om 3 60])) (
.region false [
om 50 4,
ob 51 .add (.t 50) (ki 1),
om 4 51])))))) (
.seq (sq ([
oo 5 (.mv (ki 0))]) (
.block 2 (.loop ⟨[1, 3, 5], [3], [], [], [], true⟩ (.seq (sq ([
om 61 5,
oo 62 (fa 1 1),
ol 63 false 1 62,
oo 64 (.len 0 (.t 63)),
ob 65 .lss (.t 61) (.t 64)]) (
ct 65 (
.skip) (.exit 2))) (
.seq (.block 3 (sq ([
om 68 3,
oo 69 (fa 1 1),
ol 70 false 1 69,
om 71 5,
oo 72 (.ia 3 (.t 70) (.t 71)),
oo 73 (fa 0 72),
ol 74 false 1 73,
oo 75 (.bsl 1 1 [(.s [])] [(0, .t 74)]),
oo 76 (.app 1 16 (.t 68) (.t 75)),
om 3 76]) (
.seq (.region true [
oo 77 (.bsl 1 0 [(.s [])] []),
oo 78 (fa 1 1),
ow 79 (.ld false 1 (.t 78)) 2,
om 80 5,
ow 81 (.ia 3 (.t 79) (.t 80)) 14,
ow 82 (fa 1 81) 30,
ow 83 (.ld false 1 (.t 82)) 62,
ow 84 (.app 1 16 (.t 77) (.t 83)) 127,
oo 85 (fa 1 1),
ow 86 (.ld false 1 (.t 85)) 256,
om 87 5,
ow 88 (.ia 3 (.t 86) (.t 87)) 1792,
ow 89 (fa 2 88) 3840,
ow 90 (.ld false 1 (.t 89)) 7936,
ow 91 (.app 1 16 (.t 84) (.t 90)) 16383,
ow 6 (.mv (.t 91)) 32767]) (
sq ([
om 92 6,
oo 93 (.len 0 (.t 92)),
ob 94 .gtr (.t 93) (ki 4),
om 95 94,
oh 96 (.mv (.t 6)) 95,
oh 97 (.call 412 [.t 96] 0 true) 95,
oh 98 (.un .not (.t 97)) 95,
oo 99 (.pick (.t 95) (kb true) (.t 98))]) (
ct 99 (
sq ([
oo 2 (.mv (kb false))]) (
.ret)) (.skip)))))) (
.region false [
om 66 5,
ob 67 .add (.t 66) (ki 1),
om 5 67])))))) (
.seq (sq ([
oo 7 (.mv (ki 0))]) (
.block 4 (.loop ⟨[1, 3, 7], [], [], [], [], true⟩ (.seq (sq ([
om 100 7,
oo 101 (fa 2 1),
ol 102 false 1 101,
oo 103 (.len 0 (.t 102)),
ob 104 .lss (.t 100) (.t 103)]) (
ct 104 (
.skip) (.exit 4))) (
.seq (.block 5 (sq ([
oo 107 (fa 2 1),
ol 108 false 1 107,
om 109 7,
oo 110 (.ia 3 (.t 108) (.t 109)),
ol 111 true 3 110,
oo 8 (.zero (.agg [(.d (.i .i64 0)), (.nil 2), (.nil 10)])),
oz (.st 3 (.t 8) (.t 111)) 0]) (
.seq (sq ([
oo 112 (fa 0 8),
ol 113 false 1 112,
ob 114 .lss (.t 113) (ki 0),
om 115 114,
oh 116 (fa 0 8) 115,
oh 117 (.ld false 1 (.t 116)) 115,
oh 118 (fa 1 1) 115,
oh 119 (.ld false 1 (.t 118)) 115,
oh 120 (.len 0 (.t 119)) 115,
oh 121 (.bin .geq (.t 117) (.t 120)) 115,
oo 122 (.pick (.t 115) (kb true) (.t 121)),
om 123 122,
oh 124 (fa 1 8) 123,
oh 125 (.ld false 1 (.t 124)) 123,
oh 126 (.len 0 (.t 125)) 123,
oh 127 (.bin .gtr (.t 126) (ki 5)) 123,
oo 128 (.pick (.t 123) (kb true) (.t 127))]) (
ct 128 (
sq ([
oo 2 (.mv (kb false))]) (
.ret)) (.skip))) (
sq ([
oo 9 (.mv (ki 0))]) (
.block 6 (.loop ⟨[1, 3, 7, 8, 9], [], [], [], [], true⟩ (.seq (sq ([
om 129 9,
oo 130 (fa 1 8),
ol 131 false 1 130,
oo 132 (.len 0 (.t 131)),
ob 133 .lss (.t 129) (.t 132)]) (
ct 133 (
.skip) (.exit 6))) (
.seq (.block 7 (sq ([
oo 136 (fa 1 8),
ol 137 false 1 136,
om 138 9,
oo 139 (.ia 2 (.t 137) (.t 138)),
ol 140 true 2 139,
oo 10 (.zero (.agg [(.d (.b false)), (.d (.i .i64 0))])),
oz (.st 2 (.t 10) (.t 140)) 0]) (
sq ([
oo 141 (fa 1 10),
ol 142 false 1 141,
ob 143 .lss (.t 142) (ki 0),
om 144 143,
oh 145 (fa 0 10) 144,
oh 146 (.ld false 1 (.t 145)) 144,
oh 147 (.mv (.t 146)) 144,
og 148 (fa 1 10) 147,
og 149 (.ld false 1 (.t 148)) 147,
og 150 (fa 0 1) 147,
og 151 (.ld false 1 (.t 150)) 147,
og 152 (.len 0 (.t 151)) 147,
og 153 (.bin .geq (.t 149) (.t 152)) 147,
og 154 (.mv (.t 153)) 147,
oh 155 (fa 0 1) 154,
oh 156 (.ld false 1 (.t 155)) 154,
oh 157 (fa 1 10) 154,
oh 158 (.ld false 1 (.t 157)) 154,
oh 159 (.ia 3 (.t 156) (.t 158)) 154,
oh 160 (fa 2 159) 154,
oh 161 (.ld false 1 (.t 160)) 154,
og 162 (.pick (.t 154) (kb true) (.t 161)) 147,
oh 163 (.pick (.t 147) (.t 162) (kb false)) 144,
oo 164 (.pick (.t 144) (kb true) (.t 163)),
om 165 164,
oh 166 (fa 0 10) 165,
oh 167 (.ld false 1 (.t 166)) 165,
oh 168 (.un .not (.t 167)) 165,
oh 169 (.mv (.t 168)) 165,
og 170 (fa 1 10) 169,
og 171 (.ld false 1 (.t 170)) 169,
og 172 (fa 1 1) 169,
og 173 (.ld false 1 (.t 172)) 169,
og 174 (.len 0 (.t 173)) 169,
og 175 (.bin .geq (.t 171) (.t 174)) 169,
oh 176 (.pick (.t 169) (.t 175) (kb false)) 165,
oo 177 (.pick (.t 165) (kb true) (.t 176))]) (
ct 177 (
sq ([
oo 2 (.mv (kb false))]) (
.ret)) (.skip))))) (
.region false [
om 134 9,
ob 135 .add (.t 134) (ki 1),
om 9 135]))))))))) (
.region false [
om 105 7,
ob 106 .add (.t 105) (ki 1),
om 7 106])))))) (
sq ([
om 178 3,
oo 179 (.call 412 [.t 178] 0 true),
om 2 179]) (
.ret))))))), [.slot 2]⟩
def n393 : Notes := { anns := [⟨[1, 3, 4], [3], [], [], [], true⟩, ⟨[1, 3, 5], [3], [], [], [], true⟩, ⟨[1, 3, 7], [], [], [], [], true⟩, ⟨[1, 3, 7, 8, 9], [], [], [], [], true⟩], frz := [], rgs := [] }
def c394 : CFn := ⟨sq ([
oo 1 (.box (.t 0)),
oo 2 (.zero (.agg [(.nil 1), (.nil 1), (.nil 1)]))]) (
sq ([
oo 12 (fa 1 1),
ol 13 false 1 12,
oo 14 (.len 0 (.t 13)),
oo 15 (.mks 1 1 [(.b false)] false (.t 14) (.t 14)),
oo 16 (.build [(.nil 1), (.nil 1), (.nil 1)] [(0, 1, .t 15)]),
oo 3 (.zero (.agg [(.nil 1), (.nil 1), (.nil 1)])),
oz (.st 3 (.t 3) (.t 16)) 0]) (
.seq (sq ([
oo 4 (.mv (ki 0))]) (
.block 0 (.loop ⟨[1, 2, 3, 4], [], [], [], [], false⟩ (.seq (sq ([
om 17 4,
oo 18 (fa 1 1),
ol 19 false 1 18,
oo 20 (.len 0 (.t 19)),
ob 21 .lss (.t 17) (.t 20)]) (
ct 21 (
.skip) (.exit 0))) (
.seq (.block 1 (.region true [
oo 24 (fa 1 3),
ow 25 (.ld false 1 (.t 24)) 1,
oo 26 (fa 0 1),
ow 27 (.ld false 1 (.t 26)) 4,
ow 28 (.len 0 (.t 27)) 12,
ow 29 (.mks 1 1 [(.b false)] false (.t 28) (.t 28)) 28,
ow 30 (.bsa 1 1 [(.l 1 [])] [(0, .t 29)]) 60,
ow 31 (.apa 1 24 (.t 25) (.t 30)) 127,
oo 32 (fa 2 3),
ow 33 (.ld false 1 (.t 32)) 256,
oo 34 (fa 0 1),
ow 35 (.ld false 1 (.t 34)) 1024,
ow 36 (.len 0 (.t 35)) 3072,
ow 37 (.bin .add (.t 36) (ki 1)) 7168,
ow 38 (.mks 1 1 [(.b false)] false (.t 37) (.t 37)) 15360,
ow 39 (.bsa 1 1 [(.l 1 [])] [(0, .t 38)]) 31744,
ow 40 (.apa 1 24 (.t 33) (.t 39)) 65535,
ow 41 (fa 1 3) 1023,
oz (.st 1 (.t 41) (.t 31)) 262143,
ow 42 (fa 2 3) 524287,
oz (.st 1 (.t 42) (.t 40)) 1048575])) (
.region false [
om 22 4,
ob 23 .add (.t 22) (ki 1),
om 4 23])))))) (
.seq (.region true [
oo 43 (fa 2 3),
ow 44 (.ld false 1 (.t 43)) 1,
ow 45 (.ia 1 (.t 44) (ki 0)) 3,
ow 46 (.ld false 1 (.t 45)) 7,
oo 47 (fa 0 1),
ow 48 (.ld false 1 (.t 47)) 16,
ow 49 (.len 0 (.t 48)) 48,
ow 50 (.ia 1 (.t 46) (.t 49)) 127,
oz (.st 1 (.t 50) (kb true)) 255]) (
.seq (sq ([
oo 5 (.mv (kb true))]) (
.block 2 (.loop ⟨[1, 2, 3, 5], [], [], [], [], true⟩ (.seq (sq ([
om 51 5]) (
ct 51 (
.skip) (.exit 2))) (
.block 3 (sq ([
oo 5 (.mv (kb false))]) (
sq ([
oo 6 (.mv (ki 0))]) (
.block 4 (.loop ⟨[1, 2, 3, 5, 6], [], [], [], [], true⟩ (.seq (sq ([
om 52 6,
oo 53 (fa 2 1),
ol 54 false 1 53,
oo 55 (.len 0 (.t 54)),
ob 56 .lss (.t 52) (.t 55)]) (
ct 56 (
.skip) (.exit 4))) (
.seq (.block 5 (sq ([
oo 59 (fa 2 1),
ol 60 false 1 59,
om 61 6,
oo 62 (.ia 3 (.t 60) (.t 61)),
ol 63 true 3 62,
oo 7 (.zero (.agg [(.d (.i .i64 0)), (.nil 2), (.nil 10)])),
oz (.st 3 (.t 7) (.t 63)) 0]) (
sq ([
ol 65 true 3 3,
ol 66 true 3 1,
oo 67 (fa 1 7),
ol 68 false 1 67,
oo 69 (.call 413 [.t 65, .t 66, .t 68] 0 true),
om 64 69,
oo 70 (.ext (.t 64) 0),
oo 71 (.ext (.t 64) 1),
om 8 70,
om 9 71]) (
.seq (sq ([
om 72 9,
om 73 72,
og 74 (fa 0 3) 73,
og 75 (.ld false 1 (.t 74)) 73,
og 76 (fa 0 7) 73,
og 77 (.ld false 1 (.t 76)) 73,
og 78 (.ia 1 (.t 75) (.t 77)) 73,
og 79 (.ld false 1 (.t 78)) 73,
og 80 (.un .not (.t 79)) 73,
oo 81 (.pick (.t 73) (.t 80) (kb false))]) (
ct 81 (
.region false [
oo 82 (fa 0 3),
ol 83 false 1 82,
oo 84 (fa 0 7),
ol 85 false 1 84,
oo 86 (.ia 1 (.t 83) (.t 85)),
oz (.st 1 (.t 86) (kb true)) 0,
oo 5 (.mv (kb true))]) (.skip))) (
.seq (sq ([
oo 10 (.mv (ki 0))]) (
.block 6 (.loop ⟨[1, 2, 3, 5, 6, 7, 8, 10], [], [], [], [], true⟩ (.seq (sq ([
om 87 10,
om 88 8,
oo 89 (.len 0 (.t 88)),
ob 90 .lss (.t 87) (.t 89)]) (
ct 90 (
.skip) (.exit 6))) (
.seq (.block 7 (sq ([
om 93 8,
om 94 10,
oo 95 (.ia 1 (.t 93) (.t 94)),
ol 96 false 1 95,
om 97 96,
og 98 (fa 1 3) 97,
og 99 (.ld false 1 (.t 98)) 97,
og 100 (fa 0 7) 97,
og 101 (.ld false 1 (.t 100)) 97,
og 102 (.ia 1 (.t 99) (.t 101)) 97,
og 103 (.ld false 1 (.t 102)) 97,
og 104 (.mv (.t 10)) 97,
og 105 (.ia 1 (.t 103) (.t 104)) 97,
og 106 (.ld false 1 (.t 105)) 97,
og 107 (.un .not (.t 106)) 97,
oo 108 (.pick (.t 97) (.t 107) (kb false))]) (
ct 108 (
.region false [
oo 109 (fa 1 3),
ol 110 false 1 109,
oo 111 (fa 0 7),
ol 112 false 1 111,
oo 113 (.ia 1 (.t 110) (.t 112)),
ol 114 false 1 113,
om 115 10,
oo 116 (.ia 1 (.t 114) (.t 115)),
oz (.st 1 (.t 116) (kb true)) 0,
oo 5 (.mv (kb true))]) (.skip)))) (
.region false [
om 91 10,
ob 92 .add (.t 91) (ki 1),
om 10 92])))))) (
sq ([
oo 11 (.mv (ki 0))]) (
.block 8 (.loop ⟨[1, 2, 3, 5, 6, 7, 11], [], [], [], [], true⟩ (.seq (sq ([
om 117 11,
oo 118 (fa 1 7),
ol 119 false 1 118,
oo 120 (.len 0 (.t 119)),
ob 121 .lss (.t 117) (.t 120)]) (
ct 121 (
.skip) (.exit 8))) (
.seq (.block 9 (sq ([
oo 124 (fa 1 7),
ol 125 false 1 124,
om 126 11,
oo 127 (.ia 2 (.t 125) (.t 126)),
oo 128 (fa 0 127),
ol 129 false 1 128,
oo 130 (.un .not (.t 129)),
om 131 130,
og 132 (.ld true 3 (.t 3)) 131,
og 133 (.ld true 3 (.t 1)) 131,
og 134 (.ld true 3 (.t 7)) 131,
og 135 (.mv (.t 11)) 131,
og 136 (.call 414 [.t 132, .t 133, .t 134, .t 135] 0 true) 131,
oo 137 (.pick (.t 131) (.t 136) (kb false))]) (
ct 137 (
.region false [
oo 5 (.mv (kb true))]) (.skip)))) (
.region false [
om 122 11,
ob 123 .add (.t 122) (ki 1),
om 11 123]))))))))))) (
.region false [
om 57 6,
ob 58 .add (.t 57) (ki 1),
om 6 58])))))))))))) (
sq ([
ol 138 true 3 3,
oz (.st 3 (.t 2) (.t 138)) 0]) (
.ret)))))), [.cell 2 true 3]⟩
def n394 : Notes := { anns := [⟨[1, 2, 3, 4], [], [], [], [], false⟩, ⟨[1, 2, 3, 5], [], [], [], [], true⟩, ⟨[1, 2, 3, 5, 6], [], [], [], [], true⟩, ⟨[1, 2, 3, 5, 6, 7, 8, 10], [], [], [], [], true⟩, ⟨[1, 2, 3, 5, 6, 7, 11], [], [], [], [], true⟩], frz := [0, 0, 0, 0, 0, 0, 0, 0, 0, 0, 0, 0, 0, 0, 0, 0, 0, 0, 0, 0, 0, 1, 1, 0, 0, 0, 0, 0, 0, 0, 1, 1], rgs := [] }
def c395 : CFn := ⟨sq ([
oo 4 (.box (.t 0)),
oo 5 (.box (.t 1)),
oo 8 (.mv (kb false))]) (
.seq (.region true [
ol 12 true 3 4,
ol 13 true 3 5,
oo 14 (fa 2 5),
ow 15 (.ld false 1 (.t 14)) 4,
om 16 2,
ow 17 (.ia 3 (.t 15) (.t 16)) 28,
ow 18 (fa 1 17) 60,
ow 19 (.ld false 1 (.t 18)) 124,
ow 20 (.call 413 [.t 12, .t 13, .t 19] 0 true) 255,
ow 11 (.mv (.t 20)) 511,
ow 21 (.ext (.t 11) 0) 1023,
ow 22 (.ext (.t 11) 1) 1023,
ow 9 (.mv (.t 21)) 2047,
ow 10 (.mv (.t 22)) 8191]) (
.seq (.region true [
om 23 3,
om 24 9,
ow 25 (.len 0 (.t 24)) 2,
ow 26 (.bin .lss (.t 23) (.t 25)) 7,
ow 27 (.mv (.t 26)) 15,
⟨some 28, .mv (.t 9), (some (27, true)), 31⟩,
⟨some 29, .mv (.t 3), (some (27, true)), 31⟩,
⟨some 30, .ia 1 (.t 28) (.t 29), (some (27, true)), 127⟩,
⟨some 31, .ld false 1 (.t 30), (some (27, true)), 255⟩,
ow 32 (.pick (.t 27) (.t 31) (kb false)) 511,
ow 33 (.mv (.t 32)) 1023,
⟨some 34, .mv (.t 10), (some (33, false)), 2047⟩,
⟨some 35, .mv (.t 34), (some (33, false)), 4095⟩,
⟨some 36, .fa 2 (.t 4), (some (35, true)), 8191⟩,
⟨some 37, .ld false 1 (.t 36), (some (35, true)), 16383⟩,
⟨some 38, .fa 2 (.t 5), (some (35, true)), 8191⟩,
⟨some 39, .ld false 1 (.t 38), (some (35, true)), 40959⟩,
⟨some 40, .mv (.t 2), (some (35, true)), 8191⟩,
⟨some 41, .ia 3 (.t 39) (.t 40), (some (35, true)), 237567⟩,
⟨some 42, .fa 0 (.t 41), (some (35, true)), 499711⟩,
⟨some 43, .ld false 1 (.t 42), (some (35, true)), 1023999⟩,
⟨some 44, .ia 1 (.t 37) (.t 43), (some (35, true)), 2097151⟩,
⟨some 45, .ld false 1 (.t 44), (some (35, true)), 4194303⟩,
⟨some 46, .mv (.t 3), (some (35, true)), 8191⟩,
⟨some 47, .ia 1 (.t 45) (.t 46), (some (35, true)), 16777215⟩,
⟨some 48, .ld false 1 (.t 47), (some (35, true)), 33554431⟩,
⟨some 49, .pick (.t 35) (.t 48) (kb false), (some (33, false)), 67108863⟩,
ow 50 (.pick (.t 33) (kb true) (.t 49)) 134217727,
ow 8 (.mv (.t 50)) 268435455]) (
.ret))), [.slot 8]⟩
def n395 : Notes := { anns := [], frz := [], rgs := [] }
def c396 : CFn := ⟨sq ([
oo 3 (.box (.t 1)),
oo 4 (.mv (ki 0))]) (
.seq (sq ([
om 12 0,
oo 13 (.nilc (.t 12)),
oo 14 (fa 8 13),
ol 15 false 1 14,
ob 16 .neq (.t 15) (ki 0)]) (
ct 16 (
sq ([
oo 4 (.mv (ki 0))]) (
.ret)) (.skip))) (
sq ([
om 17 0,
oo 18 (.nilc (.t 17)),
oo 19 (fa 0 18),
oo 20 (fa 0 19),
ol 21 false 1 20,
oo 22 (.len 0 (.t 21)),
om 5 22]) (
.seq (.seq (.region true [
om 23 0,
ow 24 (.nilc (.t 23)) 1,
ow 25 (fa 5 24) 3,
ow 26 (.ld false 1 (.t 25)) 7,
om 27 0,
ow 28 (.nilc (.t 27)) 16,
ow 29 (fa 4 28) 48,
ow 30 (.ld false 1 (.t 29)) 112,
ow 31 (.len 0 (.t 30)) 240,
ow 32 (.bin .lss (.t 26) (.t 31)) 511]) (
ct 32 (
.region true [
om 33 0,
ow 34 (.nilc (.t 33)) 1,
ow 35 (fa 4 34) 3,
ow 36 (.ld false 1 (.t 35)) 7,
om 37 0,
ow 38 (.nilc (.t 37)) 16,
ow 39 (fa 5 38) 48,
ow 40 (.ld false 1 (.t 39)) 112,
ow 41 (.ia 2 (.t 36) (.t 40)) 255,
ow 42 (fa 0 41) 511,
ow 43 (.ld false 1 (.t 42)) 1023,
ow 5 (.mv (.t 43)) 2047]) (.skip))) (
sq ([
oo 6 (.mv (.k (.d (.i .i64 (-1)))))]) (
.seq (.seq (.region true [
oo 44 (fa 0 3),
ow 45 (.ld false 1 (.t 44)) 1,
ow 46 (.un .not (.t 45)) 3,
ow 47 (.mv (.t 46)) 7,
⟨some 48, .mv (.t 5), (some (47, true)), 15⟩,
⟨some 49, .bin .geq (.t 48) (ki 0), (some (47, true)), 31⟩,
ow 50 (.pick (.t 47) (.t 49) (kb false)) 63,
ow 51 (.mv (.t 50)) 127,
⟨some 52, .mv (.t 5), (some (51, true)), 255⟩,
⟨some 53, .mv (.t 0), (some (51, true)), 255⟩,
⟨some 54, .nilc (.t 53), (some (51, true)), 767⟩,
⟨some 55, .fa 3 (.t 54), (some (51, true)), 1791⟩,
⟨some 56, .ld false 1 (.t 55), (some (51, true)), 3839⟩,
⟨some 57, .fa 1 (.t 3), (some (51, true)), 255⟩,
⟨some 58, .ld false 1 (.t 57), (some (51, true)), 8447⟩,
⟨some 59, .ia 1 (.t 56) (.t 58), (some (51, true)), 32511⟩,
⟨some 60, .ld false 1 (.t 59), (some (51, true)), 65279⟩,
⟨some 61, .len 0 (.t 60), (some (51, true)), 130815⟩,
⟨some 62, .bin .lss (.t 52) (.t 61), (some (51, true)), 262143⟩,
ow 63 (.pick (.t 51) (.t 62) (kb false)) 524287,
ow 64 (.mv (.t 63)) 1048575,
⟨some 65, .mv (.t 0), (some (64, true)), 2097151⟩,
⟨some 66, .nilc (.t 65), (some (64, true)), 4194303⟩,
⟨some 67, .fa 5 (.t 66), (some (64, true)), 8388607⟩,
⟨some 68, .ld false 1 (.t 67), (some (64, true)), 16777215⟩,
⟨some 69, .mv (.t 0), (some (64, true)), 2097151⟩,
⟨some 70, .nilc (.t 69), (some (64, true)), 35651583⟩,
⟨some 71, .fa 4 (.t 70), (some (64, true)), 102760447⟩,
⟨some 72, .ld false 1 (.t 71), (some (64, true)), 236978175⟩,
⟨some 73, .len 0 (.t 72), (some (64, true)), 505413631⟩,
⟨some 74, .bin .geq (.t 68) (.t 73), (some (64, true)), 1073741823⟩,
⟨some 75, .mv (.t 74), (some (64, true)), 2147483647⟩,
⟨some 76, .mv (.t 5), (some (75, false)), 4294967295⟩,
⟨some 77, .mv (.t 0), (some (75, false)), 4294967295⟩,
⟨some 78, .nilc (.t 77), (some (75, false)), 12884901887⟩,
⟨some 79, .fa 0 (.t 78), (some (75, false)), 30064771071⟩,
⟨some 80, .fa 0 (.t 79), (some (75, false)), 64424509439⟩,
⟨some 81, .ld false 1 (.t 80), (some (75, false)), 133143986175⟩,
⟨some 82, .len 0 (.t 81), (some (75, false)), 270582939647⟩,
⟨some 83, .bin .lss (.t 76) (.t 82), (some (75, false)), 549755813887⟩,
⟨some 84, .pick (.t 75) (kb true) (.t 83), (some (64, true)), 1099511627775⟩,
ow 85 (.pick (.t 64) (.t 84) (kb false)) 2199023255551]) (
ct 85 (
.region true [
om 86 0,
ow 87 (.nilc (.t 86)) 1,
ow 88 (fa 3 87) 3,
ow 89 (.ld false 1 (.t 88)) 7,
oo 90 (fa 1 3),
ow 91 (.ld false 1 (.t 90)) 16,
ow 92 (.ia 1 (.t 89) (.t 91)) 63,
ow 93 (.ld false 1 (.t 92)) 127,
om 94 5,
ow 95 (.ia 1 (.t 93) (.t 94)) 511,
ow 96 (.ld false 1 (.t 95)) 1023,
ow 6 (.mv (.t 96)) 2047]) (.skip))) (
.seq (.seq (.region true [
oo 97 (fa 0 3),
ow 98 (.ld false 1 (.t 97)) 1,
ow 99 (.mv (.t 98)) 3,
⟨some 100, .mv (.t 0), (some (99, true)), 7⟩,
⟨some 101, .nilc (.t 100), (some (99, true)), 15⟩,
⟨some 102, .fa 5 (.t 101), (some (99, true)), 31⟩,
⟨some 103, .ld false 1 (.t 102), (some (99, true)), 63⟩,
⟨some 104, .mv (.t 0), (some (99, true)), 7⟩,
⟨some 105, .nilc (.t 104), (some (99, true)), 135⟩,
⟨some 106, .fa 4 (.t 105), (some (99, true)), 391⟩,
⟨some 107, .ld false 1 (.t 106), (some (99, true)), 903⟩,
⟨some 108, .len 0 (.t 107), (some (99, true)), 1927⟩,
⟨some 109, .bin .geq (.t 103) (.t 108), (some (99, true)), 4095⟩,
⟨some 110, .mv (.t 109), (some (99, true)), 8191⟩,
⟨some 111, .mv (.t 5), (some (110, false)), 16383⟩,
⟨some 112, .fa 1 (.t 3), (some (110, false)), 16383⟩,
⟨some 113, .ld false 1 (.t 112), (some (110, false)), 49151⟩,
⟨some 114, .bin .neq (.t 111) (.t 113), (some (110, false)), 131071⟩,
⟨some 115, .pick (.t 110) (kb true) (.t 114), (some (99, true)), 262143⟩,
ow 116 (.pick (.t 99) (.t 115) (kb false)) 524287,
ow 117 (.mv (.t 116)) 1048575,
⟨some 118, .fa 0 (.t 3), (some (117, false)), 2097151⟩,
⟨some 119, .ld false 1 (.t 118), (some (117, false)), 4194303⟩,
⟨some 120, .un .not (.t 119), (some (117, false)), 8388607⟩,
⟨some 121, .mv (.t 120), (some (117, false)), 16777215⟩,
⟨some 122, .mv (.t 6), (some (121, true)), 33554431⟩,
⟨some 123, .bin .lss (.t 122) (ki 0), (some (121, true)), 67108863⟩,
⟨some 124, .pick (.t 121) (.t 123) (kb false), (some (117, false)), 134217727⟩,
ow 125 (.pick (.t 117) (kb true) (.t 124)) 268435455]) (
ct 125 (
sq ([
om 126 0,
oo 127 (.nilc (.t 126)),
oo 128 (fa 8 127),
oz (.st 1 (.t 128) (ki 9)) 0]) (
sq ([
oo 4 (.mv (ki 0))]) (
.ret))) (.skip))) (
.seq (sq ([
om 129 0,
oo 130 (.nilc (.t 129)),
oo 131 (fa 6 130),
oo 132 (fa 0 131),
ol 133 false 1 132,
oo 134 (.len 0 (.t 133)),
ob 135 .geq (.t 134) (ki 2000)]) (
ct 135 (
sq ([
om 136 0,
oo 137 (.nilc (.t 136)),
oo 138 (fa 8 137),
oz (.st 1 (.t 138) (ki 3)) 0]) (
sq ([
oo 4 (.mv (ki 0))]) (
.ret))) (.skip))) (
sq ([
om 139 0,
oo 140 (.nilc (.t 139)),
oo 141 (fa 6 140),
oo 142 (fa 0 141),
ol 143 false 1 142,
oo 144 (.len 0 (.t 143)),
om 7 144]) (
sq ([
om 145 0,
oo 146 (.nilc (.t 145)),
oo 147 (fa 6 146),
oo 148 (fa 1 147),
ol 149 false 1 148,
om 150 6,
oo 151 (.build [(.d (.i .i64 0)), (.d (.i .i64 0)), (.d (.i .i64 0)), (.d (.s [])), (.nil 1)] [(0, 1, .t 149), (1, 1, .t 150)]),
oo 8 (.zero (.agg [(.d (.i .i64 0)), (.d (.i .i64 0)), (.d (.i .i64 0)), (.d (.s [])), (.nil 1)])),
oz (.st 5 (.t 8) (.t 151)) 0]) (
.seq (sq ([
oo 152 (fa 0 3),
ol 153 false 1 152]) (
ct 153 (
.seq (.region true [
om 154 5,
om 155 0,
ow 156 (.nilc (.t 155)) 2,
ow 157 (fa 4 156) 6,
ow 158 (.ld false 1 (.t 157)) 14,
om 159 0,
ow 160 (.nilc (.t 159)) 32,
ow 161 (fa 5 160) 96,
ow 162 (.ld false 1 (.t 161)) 224,
ow 163 (.ia 2 (.t 158) (.t 162)) 510,
ow 164 (fa 1 163) 1022,
ow 165 (.ld false 1 (.t 164)) 2046,
ow 166 (fa 2 8) 1,
oz (.st 1 (.t 166) (.t 154)) 4097,
ow 167 (fa 3 8) 16383,
oz (.st 1 (.t 167) (.t 165)) 32767]) (
.region false [
om 168 0,
oo 169 (.nilc (.t 168)),
oo 170 (fa 5 169),
ol 171 false 1 170,
ob 172 .add (.t 171) (ki 1),
oo 173 (.nilc (.t 168)),
oo 174 (fa 5 173),
oz (.st 1 (.t 174) (.t 172)) 0])) (.skip))) (
.seq (.region true [
om 175 0,
om 176 0,
ow 177 (.nilc (.t 176)) 2,
ow 178 (fa 6 177) 6,
ow 179 (fa 0 178) 14,
ow 180 (.ld false 1 (.t 179)) 30,
ol 181 true 5 8,
ow 182 (.bsa 5 1 [(.i .i64 0), (.i .i64 0), (.i .i64 0), (.s []), (.l 1 [])] [(0, .t 181)]) 64,
ow 183 (.apa 5 64 (.t 180) (.t 182)) 254,
ow 184 (.nilc (.t 175)) 511,
ow 185 (fa 6 184) 1023,
ow 186 (fa 0 185) 2047,
oz (.st 1 (.t 186) (.t 183)) 4095]) (
sq ([
om 187 0,
oo 188 (.nilc (.t 187)),
oo 189 (fa 6 188),
oo 190 (fa 1 189),
ol 191 false 1 190,
ob 192 .add (.t 191) (ki 1),
oo 193 (.nilc (.t 187)),
oo 194 (fa 6 193),
oo 195 (fa 1 194),
oz (.st 1 (.t 195) (.t 192)) 0]) (
.seq (sq ([
oo 196 (fa 0 3),
ol 197 false 1 196]) (
ct 197 (
sq ([
om 198 7,
om 4 198]) (
.ret)) (.skip))) (
sq ([
oo 9 (.mv (.k (.nil 1)))]) (
.seq (sq ([
oo 10 (.mv (ki 0))]) (
.block 0 (.loop ⟨[0, 6, 7, 9, 10], [], [], [], [], false⟩ (.seq (sq ([
om 199 10,
om 200 0,
oo 201 (.nilc (.t 200)),
oo 202 (fa 0 201),
oo 203 (fa 2 202),
ol 204 false 1 203,
om 205 6,
oo 206 (.ia 3 (.t 204) (.t 205)),
oo 207 (fa 1 206),
ol 208 false 1 207,
oo 209 (.len 0 (.t 208)),
ob 210 .lss (.t 199) (.t 209),
om 211 210,
og 212 (.mv (.t 0)) 211,
og 213 (.nilc (.t 212)) 211,
og 214 (fa 8 213) 211,
og 215 (.ld false 1 (.t 214)) 211,
og 216 (.bin .eql (.t 215) (ki 0)) 211,
oo 217 (.pick (.t 211) (.t 216) (kb false))]) (
ct 217 (
.skip) (.exit 0))) (
.seq (.block 1 (sq ([
om 220 0,
om 221 0,
oo 222 (.nilc (.t 221)),
oo 223 (fa 0 222),
oo 224 (fa 2 223),
ol 225 false 1 224,
om 226 6,
oo 227 (.ia 3 (.t 225) (.t 226)),
oo 228 (fa 1 227),
ol 229 false 1 228,
om 230 10,
oo 231 (.ia 2 (.t 229) (.t 230)),
ol 232 true 2 231,
oo 233 (.call 396 [.t 220, .t 232] 4 true),
om 11 233]) (
sq ([
om 234 0,
oo 235 (.nilc (.t 234)),
oo 236 (fa 8 235),
ol 237 false 1 236,
ob 238 .eql (.t 237) (ki 0)]) (
ct 238 (
.region false [
om 239 9,
om 240 0,
oo 241 (.nilc (.t 240)),
oo 242 (fa 6 241),
oo 243 (fa 0 242),
ol 244 false 1 243,
om 245 11,
oo 246 (.ia 5 (.t 244) (.t 245)),
oo 247 (fa 0 246),
ol 248 false 1 247,
oo 249 (.bsa 1 1 [(.i .i64 0)] [(0, .t 248)]),
oo 250 (.apa 1 8 (.t 239) (.t 249)),
om 9 250]) (.skip))))) (
.region false [
om 218 10,
ob 219 .add (.t 218) (ki 1),
om 10 219])))))) (
sq ([
om 251 0,
oo 252 (.nilc (.t 251)),
oo 253 (fa 6 252),
oo 254 (fa 0 253),
ol 255 false 1 254,
om 256 7,
oo 257 (.frz (.t 9)),
oo 258 (.ia 5 (.t 255) (.t 256)),
oo 259 (fa 4 258),
oz (.st 1 (.t 259) (.t 257)) 0]) (
sq ([
om 260 7,
om 4 260]) (
.ret)))))))))))))))))), [.slot 4]⟩
def n396 : Notes := { anns := [⟨[0, 6, 7, 9, 10], [], [], [], [], false⟩], frz := [0, 0, 0, 0, 0, 0, 0, 0, 0, 0, 0, 0, 0, 0, 0, 0, 0, 0, 0, 0, 0, 0, 0, 0, 0, 0, 0, 0, 0, 0, 0, 0, 0, 0, 0, 0, 0, 0, 0, 0, 0, 0, 0, 0, 0, 0, 0, 0, 0, 0, 0, 0, 0, 0, 0, 0, 0, 0, 0, 0, 0, 0, 0, 0, 0, 0, 0, 0, 0, 0, 0, 0, 0, 0, 0, 0, 0, 0, 0, 0, 0, 0, 0, 0, 0, 0, 0, 0, 0, 0, 0, 0, 0, 0, 0, 0, 0, 0, 0, 0, 0, 0, 0, 0, 0, 0, 0, 0, 0, 0, 0, 0, 0, 0, 0, 0, 0, 0, 0, 0, 0, 0, 0, 0, 0, 0, 0, 0, 0, 0, 0, 0, 0, 0, 0, 0, 0, 0, 0, 0, 0, 0, 0, 0, 0, 0, 0, 0, 0, 0, 0, 0, 0, 0, 0, 0, 0, 0, 0, 0, 0, 0, 0, 0, 0, 0, 0, 0, 0, 0, 0, 0, 0, 0, 0, 0, 0, 0, 0, 0, 0, 0, 0, 0, 0, 0, 0, 1, 1, 0, 0, 0, 0, 0, 0, 0, 0, 0, 0, 0, 0, 0, 0, 0, 0, 0, 0, 0, 0, 0, 0, 0, 0, 0, 0, 0, 0, 0, 0, 0, 0, 0, 0, 0, 0, 0, 0, 0, 0, 0, 0, 0, 0, 0, 0, 0, 0, 0, 0, 0, 0, 0, 0, 0, 0, 0, 0, 0, 0, 0, 0, 0, 0, 0, 0, 0, 0, 0, 1, 1, 0, 0, 0, 0, 0, 0, 0, 0, 0, 0, 1], rgs := [] }
def c398 : CFn := ⟨sq ([
oo 2 (.mv (.k (.nil 1))),
oo 3 (.mv (kb false))]) (
sq ([
oo 4 (.mv (.k (.nil 1)))]) (
.seq (sq ([
oo 5 (.mv (ki 0))]) (
.block 0 (.loop ⟨[0, 4, 5], [4], [], [], [], true⟩ (.seq (sq ([
om 8 5,
om 9 0,
oo 10 (.len 0 (.t 9)),
ob 11 .lss (.t 8) (.t 10)]) (
ct 11 (
.skip) (.exit 0))) (
.seq (.block 1 (sq ([
om 15 0,
om 16 5,
oo 17 (.ia 3 (.t 15) (.t 16)),
oo 18 (fa 1 17),
ol 19 false 1 18,
oo 20 (.call 416 [.t 19] 0 true),
om 14 20,
oo 21 (.ext (.t 14) 0),
oo 22 (.ext (.t 14) 1),
om 6 21,
om 7 22]) (
.seq (sq ([
om 23 7,
oo 24 (.un .not (.t 23))]) (
ct 24 (
sq ([
oo 2 (.mv (.k (.nil 1))),
oo 3 (.mv (kb false))]) (
.ret)) (.skip))) (
.region false [
om 25 4,
om 26 6,
oo 27 (.bsl 1 1 [(.l 2 [])] [(0, .t 26)]),
oo 28 (.app 1 24 (.t 25) (.t 27)),
om 4 28])))) (
.region false [
om 12 5,
ob 13 .add (.t 12) (ki 1),
om 5 13])))))) (
sq ([
om 29 4,
om 2 29,
oo 3 (.mv (kb true))]) (
.ret)))), [.slot 2, .slot 3]⟩
def n398 : Notes := { anns := [⟨[0, 4, 5], [4], [], [], [], true⟩], frz := [], rgs := [] }
def c399 : CFn := ⟨sq ([
oo 6 (.mv (.k (.nil 2)))]) (
sq ([
oo 7 (.mv (.k (.nil 2)))]) (
.seq (sq ([
oo 8 (.mv (ki 0))]) (
.block 0 (.loop ⟨[0, 1, 2, 7, 8], [7], [], [], [], true⟩ (.seq (sq ([
om 11 8,
om 12 1,
oo 13 (.len 0 (.t 12)),
ob 14 .lss (.t 11) (.t 13)]) (
ct 14 (
.skip) (.exit 0))) (
.seq (.block 1 (sq ([
om 17 1,
om 18 8,
oo 19 (.ia 3 (.t 17) (.t 18)),
ol 20 true 3 19,
oo 9 (.zero (.agg [(.d (.i .i64 0)), (.d (.i .i64 0)), (.d (.i .i64 0))])),
oz (.st 3 (.t 9) (.t 20)) 0]) (
.seq (sq ([
oo 21 (fa 1 9),
ol 22 false 1 21,
ob 23 .lss (.t 22) (ki 0),
om 24 23,
oh 25 (fa 2 9) 24,
oh 26 (.ld false 1 (.t 25)) 24,
oh 27 (.bin .lss (.t 26) (ki 0)) 24,
oo 28 (.pick (.t 24) (kb true) (.t 27)),
om 29 28,
oh 30 (fa 1 9) 29,
oh 31 (.ld false 1 (.t 30)) 29,
oh 32 (.mv (.t 2)) 29,
oh 33 (.len 1 (.t 32)) 29,
oh 34 (.bin .gtr (.t 31) (.t 33)) 29,
oo 35 (.pick (.t 29) (kb true) (.t 34)),
om 36 35,
oh 37 (fa 2 9) 36,
oh 38 (.ld false 1 (.t 37)) 36,
oh 39 (.mv (.t 2)) 36,
oh 40 (.len 1 (.t 39)) 36,
oh 41 (fa 1 9) 36,
oh 42 (.ld false 1 (.t 41)) 36,
oh 43 (.bin .sub (.t 40) (.t 42)) 36,
oh 44 (.bin .gtr (.t 38) (.t 43)) 36,
oo 45 (.pick (.t 36) (kb true) (.t 44))]) (
ct 45 (
.exit 1) (.skip))) (
sq ([
oo 46 (fa 0 9),
ol 47 false 1 46,
om 10 47]) (
.seq (sq ([
om 48 10,
ob 49 .lss (.t 48) (ki 0),
om 50 49,
oh 51 (.mv (.t 10)) 50,
oh 52 (.mv (.t 0)) 50,
oh 53 (.len 0 (.t 52)) 50,
oh 54 (.bin .geq (.t 51) (.t 53)) 50,
oo 55 (.pick (.t 50) (kb true) (.t 54))]) (
ct 55 (
.region false [
oo 10 (.mv (.k (.d (.i .i64 (-1)))))]) (.skip))) (
.seq (sq ([
om 56 10,
ob 57 .geq (.t 56) (ki 0),
om 58 57,
og 59 (.mv (.t 0)) 58,
og 60 (.mv (.t 10)) 58,
og 61 (.ia 3 (.t 59) (.t 60)) 58,
og 62 (fa 2 61) 58,
og 63 (.ld false 1 (.t 62)) 58,
oo 64 (.pick (.t 58) (.t 63) (kb false))]) (
ct 64 (
.exit 1) (.skip))) (
.region false [
om 65 7,
om 66 10,
om 67 2,
oo 68 (fa 1 9),
ol 69 false 1 68,
oo 70 (fa 1 9),
ol 71 false 1 70,
oo 72 (fa 2 9),
ol 73 false 1 72,
ob 74 .add (.t 71) (.t 73),
oo 75 (.sls (.t 67) (some (.t 69)) (some (.t 74))),
oo 76 (.build [(.d (.i .i64 0)), (.d (.s []))] [(0, 1, .t 66), (1, 1, .t 75)]),
oo 77 (.bsl 2 1 [(.i .i64 0), (.s [])] [(0, .t 76)]),
oo 78 (.app 2 24 (.t 65) (.t 77)),
om 7 78]))))))) (
.region false [
om 15 8,
ob 16 .add (.t 15) (ki 1),
om 8 16])))))) (
sq ([
om 79 7,
om 6 79]) (
.ret)))), [.slot 6]⟩
def n399 : Notes := { anns := [⟨[0, 1, 2, 7, 8], [7], [], [], [], true⟩], frz := [], rgs := [] }
def c400 : CFn := ⟨sq ([
oo 4 (.mv (.k (.nil 3)))]) (
sq ([
oo 5 (.mv (.k (.nil 3)))]) (
.seq (sq ([
oo 6 (.mv (ki 0))]) (
.block 0 (.loop ⟨[0, 1, 5, 6], [5], [], [], [], true⟩ (.seq (sq ([
om 10 6,
om 11 1,
oo 12 (.len 1 (.t 11)),
ob 13 .lss (.t 10) (.t 12)]) (
ct 13 (
.skip) (.exit 0))) (
.block 1 (sq ([
om 15 0,
om 16 1,
om 17 6,
oo 18 (.sls (.t 16) (some (.t 17)) none),
oo 19 (.call 417 [.t 15, .t 18] 0 true),
om 14 19,
oo 20 (.ext (.t 14) 0),
oo 21 (.ext (.t 14) 1),
oo 22 (.ext (.t 14) 2),
om 7 20,
om 8 21,
om 9 22]) (
.seq (sq ([
om 23 9,
oo 24 (.un .not (.t 23))]) (
ct 24 (
.region false [
oo 7 (.mv (.k (.d (.i .i64 (-1))))),
oo 8 (.mv (ki 1))]) (.skip))) (
sq ([
om 25 5,
om 26 7,
om 27 6,
om 28 8,
oo 29 (.build [(.d (.i .i64 0)), (.d (.i .i64 0)), (.d (.i .i64 0))] [(0, 1, .t 26), (1, 1, .t 27), (2, 1, .t 28)]),
oo 30 (.bsl 3 1 [(.i .i64 0), (.i .i64 0), (.i .i64 0)] [(0, .t 29)]),
oo 31 (.app 3 24 (.t 25) (.t 30)),
om 5 31]) (
.region false [
om 32 6,
om 33 8,
ob 34 .add (.t 32) (.t 33),
om 6 34]))))))))) (
sq ([
om 35 5,
om 4 35]) (
.ret)))), [.slot 4]⟩
def n400 : Notes := { anns := [⟨[0, 1, 5, 6], [5], [], [], [], true⟩], frz := [], rgs := [] }
def c401 : CFn := ⟨sq ([
oo 4 (.mv (.k (.d (.s []))))]) (
.seq (sq ([
om 6 0,
oo 7 (.call 123 [.t 6, (ki 6)] 4 true),
om 5 7]) (
.block 0 (sq ([
om 9 5,
ob 10 .eql (.t 9) (ki 0),
om 11 10,
og 12 (.mv (.t 1)) 11,
og 13 (.bin .gtr (.t 12) (ki 0)) 11,
oo 14 (.pick (.t 11) (.t 13) (kb false)),
om 8 14]) (
ct 8 (
sq ([
om 15 0,
om 16 1,
ob 17 .sub (.t 16) (ki 1),
oo 18 (.call 384 [.t 15, .t 17] 4 true),
oo 19 (.bin .add (.k (.d (.s [40]))) (.t 18)),
oo 20 (.bin .add (.t 19) (.k (.d (.s [41])))),
om 4 20]) (
.ret)) (sq ([
om 22 5,
ob 23 .lss (.t 22) (ki 3),
om 21 23]) (
ct 21 (
sq ([
oo 24 (.bsl 1 3 [(.s [])] [(0, (.k (.d (.s [120])))), (1, (.k (.d (.s [121])))), (2, (.k (.d (.s [122, 122]))))]),
om 25 0,
oo 26 (.call 123 [.t 25, (ki 3)] 4 true),
oo 27 (.ia 1 (.t 24) (.t 26)),
ol 28 false 1 27,
om 4 28]) (
.ret)) (sq ([
om 30 5,
ob 31 .eql (.t 30) (ki 3),
om 29 31]) (
ct 29 (
sq ([
oo 32 (.bsl 1 2 [(.s [])] [(0, (.k (.d (.s [49])))), (1, (.k (.d (.s [50, 48]))))]),
om 33 0,
oo 34 (.call 123 [.t 33, (ki 2)] 4 true),
oo 35 (.ia 1 (.t 32) (.t 34)),
ol 36 false 1 35,
oo 37 (.bin .add (.k (.d (.s [32]))) (.t 36)),
om 4 37]) (
.ret)) (.skip))))))))) (
sq ([
oo 38 (.bsl 1 4 [(.s [])] [(0, (.k (.d (.s [51])))), (1, (.k (.d (.s [52, 49])))), (2, (.k (.d (.s [57, 57, 57, 57, 57, 57, 57, 57, 57, 57, 57, 57, 57, 57, 57, 57, 57, 57])))), (3, (.k (.d (.s [55]))))]),
om 39 0,
oo 40 (.call 123 [.t 39, (ki 4)] 4 true),
oo 41 (.ia 1 (.t 38) (.t 40)),
ol 42 false 1 41,
om 4 42]) (
.ret))), [.slot 4]⟩
def n401 : Notes := { anns := [], frz := [], rgs := [] }
def c404 : CFn := ⟨sq ([
oo 2 (.box (.t 0)),
oo 3 (.box (.t 1)),
oo 4 (.mv (kb false))]) (
.seq (.seq (.region true [
oo 9 (fa 0 3),
ow 10 (.ld false 1 (.t 9)) 1,
ow 11 (.len 0 (.t 10)) 3,
ow 12 (.bin .lss (.t 11) (ki 1)) 7,
ow 13 (.mv (.t 12)) 15,
⟨some 14, .fa 0 (.t 3), (some (13, false)), 31⟩,
⟨some 15, .ld false 1 (.t 14), (some (13, false)), 63⟩,
⟨some 16, .len 0 (.t 15), (some (13, false)), 127⟩,
⟨some 17, .bin .gtr (.t 16) (ki 2000), (some (13, false)), 255⟩,
ow 18 (.pick (.t 13) (kb true) (.t 17)) 511,
ow 19 (.mv (.t 18)) 1023,
⟨some 20, .ld true 3 (.t 2), (some (19, false)), 2047⟩,
⟨some 21, .fa 0 (.t 3), (some (19, false)), 2047⟩,
⟨some 22, .ld false 1 (.t 21), (some (19, false)), 6143⟩,
⟨some 23, .ia 5 (.t 22) (ki 0), (some (19, false)), 14335⟩,
⟨some 24, .ld true 5 (.t 23), (some (19, false)), 30719⟩,
⟨some 25, .build [(.d (.b false)), (.d (.i .i64 0))] [], (some (19, false)), 2047⟩,
⟨some 26, .call 422 [.t 20, .t 24, .t 25] 0 true, (some (19, false)), 131071⟩,
⟨some 27, .un .not (.t 26), (some (19, false)), 262143⟩,
ow 28 (.pick (.t 19) (kb true) (.t 27)) 524287]) (
ct 28 (
sq ([
oo 4 (.mv (kb false))]) (
.ret)) (.skip))) (
sq ([
ol 29 true 2 3,
oo 30 (.call 423 [.t 29] 0 true),
oo 31 (.mkm),
om 5 30,
om 6 31]) (
.seq (sq ([
oo 32 (fa 0 3),
ol 33 false 1 32,
oo 34 (.len 0 (.t 33)),
oo 35 (.mv (ki 0))]) (
.block 0 (.loop ⟨[2, 3, 5, 6, 33, 34, 35], [], [], [], [], true⟩ (sq ([
ob 36 .lss (.t 35) (.t 34)]) (
.seq (ct 36 (
.skip) (.exit 0)) (
.seq (.block 1 (sq ([
om 37 35,
oo 38 (.ia 5 (.t 33) (.t 35)),
ol 39 true 5 38,
oo 8 (.zero (.agg [(.d (.i .i64 0)), (.d (.i .i64 0)), (.d (.i .i64 0)), (.d (.s [])), (.nil 1)])),
om 7 37,
oz (.st 5 (.t 8) (.t 39)) 0]) (
.seq (sq ([
oo 40 (fa 0 8),
ol 41 false 1 40,
ob 42 .lss (.t 41) (ki 1),
om 43 42,
oh 44 (fa 0 8) 43,
oh 45 (.ld false 1 (.t 44)) 43,
oh 46 (fa 1 3) 43,
oh 47 (.ld false 1 (.t 46)) 43,
oh 48 (.bin .geq (.t 45) (.t 47)) 43,
oo 49 (.pick (.t 43) (kb true) (.t 48)),
om 50 49,
oh 51 (.mv (.t 6)) 50,
oh 52 (fa 0 8) 50,
oh 53 (.ld false 1 (.t 52)) 50,
oh 54 (.lk false [.i] false (.d (.b false)) (.t 51) (.t 53)) 50,
oo 55 (.pick (.t 50) (kb true) (.t 54)),
om 56 55,
oh 57 (.ld true 3 (.t 2)) 56,
oh 58 (.ld true 2 (.t 3)) 56,
oh 59 (.mv (.t 5)) 56,
oh 60 (.mv (.t 7)) 56,
oh 61 (.call 424 [.t 57, .t 58, .t 59, .t 60] 0 true) 56,
oh 62 (.un .not (.t 61)) 56,
oo 63 (.pick (.t 56) (kb true) (.t 62))]) (
ct 63 (
sq ([
oo 4 (.mv (kb false))]) (
.ret)) (.skip))) (
.region false [
om 64 6,
oo 65 (fa 0 8),
ol 66 false 1 65,
oz (.mu false [.i] (.t 64) (.t 66) (kb true)) 0])))) (
.region false [
ob 67 .add (.t 35) (ki 1),
om 35 67]))))))) (
.seq (.region true [
om 68 5,
ow 69 (.ia 1 (.t 68) (ki 0)) 1,
ow 70 (.ld false 1 (.t 69)) 3,
oo 71 (fa 0 3),
ow 72 (.ld false 1 (.t 71)) 8,
ow 73 (.len 0 (.t 72)) 24,
ow 74 (.bin .eql (.t 70) (.t 73)) 63,
ow 4 (.mv (.t 74)) 127]) (
.ret))))), [.slot 4]⟩
def n404 : Notes := { anns := [⟨[2, 3, 5, 6, 33, 34, 35], [], [], [], [], true⟩], frz := [], rgs := [] }
def c405 : CFn := ⟨sq ([
oo 5 (fa 0 1),
ol 6 false 1 5,
oo 7 (.len 0 (.t 6)),
oo 8 (.mv (ki 0))]) (
.block 0 (.loop ⟨[0, 6, 7, 8], [], [], [], [], true⟩ (sq ([
ob 9 .lss (.t 8) (.t 7)]) (
.seq (ct 9 (
.skip) (.exit 0)) (
.seq (.block 1 (sq ([
oo 10 (.ia 5 (.t 6) (.t 8)),
ol 11 true 5 10,
oo 4 (.zero (.agg [(.d (.i .i64 0)), (.d (.i .i64 0)), (.d (.i .i64 0)), (.d (.s [])), (.nil 1)])),
oz (.st 5 (.t 4) (.t 11)) 0]) (
sq ([
oo 12 (fa 1 4),
ol 13 false 1 12,
ob 14 .geq (.t 13) (ki 0),
om 15 14,
og 16 (.mv (.t 0)) 15,
og 17 (.ld true 5 (.t 4)) 15,
og 18 (.callv (.t 16) [.t 17] 4 true) 15,
og 19 (.un .not (.t 18)) 15,
oo 20 (.pick (.t 15) (.t 19) (kb false))]) (
ct 20 (
.ret) (.skip))))) (
.region false [
ob 21 .add (.t 8) (ki 1),
om 8 21])))))), []⟩
def n405 : Notes := { anns := [⟨[0, 6, 7, 8], [], [], [], [], true⟩], frz := [], rgs := [] }
def c406 : CFn := ⟨sq ([
oo 2 (.box (.t 0)),
oo 3 (.box (.t 1)),
oo 4 (.mv (ki 0)),
oo 5 (.mv (kb false))]) (
sq ([
oo 7 (fa 0 2),
ol 8 false 1 7,
oo 9 (.mkf 426 [] [.t 3] true),
oo 10 (.call 425 [.t 8, .t 9] 4 true),
om 6 10]) (
sq ([
om 11 6,
oo 12 (.mm true [.t 11, (ki 0)]),
om 13 6,
ob 14 .geq (.t 13) (ki 0),
om 4 12,
om 5 14]) (
.ret))), [.slot 4, .slot 5]⟩
def n406 : Notes := { anns := [], frz := [0, 0, 0, 0, 0, 0, 1], rgs := [] }
def c407 : CFn := ⟨sq ([
oo 2 (.box (.t 0)),
oo 4 (.mv (ki 0)),
oo 5 (.mv (ki 0)),
oo 6 (.mv (kb false))]) (
.seq (sq ([
oo 10 (fa 0 2),
ol 11 false 1 10,
oo 12 (.len 0 (.t 11)),
oo 13 (.mv (ki 0))]) (
.block 0 (.loop ⟨[1, 11, 12, 13], [], [], [], [], true⟩ (sq ([
ob 14 .lss (.t 13) (.t 12)]) (
.seq (ct 14 (
.skip) (.exit 0)) (
.seq (.block 1 (sq ([
om 15 13,
oo 16 (.ia 5 (.t 11) (.t 13)),
ol 17 true 5 16,
oo 8 (.zero (.agg [(.d (.i .i64 0)), (.d (.i .i64 0)), (.d (.i .i64 0)), (.d (.s [])), (.nil 1)])),
om 7 15,
oz (.st 5 (.t 8) (.t 17)) 0]) (
sq ([
oo 18 (fa 4 8),
ol 19 false 1 18,
om 20 1,
oo 21 (.call 427 [.t 19, .t 20] 0 true),
om 9 21]) (
sq ([
om 22 9,
ob 23 .geq (.t 22) (ki 0)]) (
ct 23 (
sq ([
om 24 7,
om 25 9,
ob 26 .add (.t 25) (ki 1),
om 4 24,
om 5 26,
oo 6 (.mv (kb true))]) (
.ret)) (.skip)))))) (
.region false [
ob 27 .add (.t 13) (ki 1),
om 13 27]))))))) (
sq ([
oo 4 (.mv (ki 0)),
oo 5 (.mv (ki 0)),
oo 6 (.mv (kb false))]) (
.ret))), [.slot 4, .slot 5, .slot 6]⟩
def n407 : Notes := { anns := [⟨[1, 11, 12, 13], [], [], [], [], true⟩], frz := [], rgs := [] }
def c408 : CFn := ⟨sq ([
oo 3 (.box (.t 0)),
oo 4 (.box (.t 1)),
oo 5 (.box (.t 2)),
oo 6 (.mv (ki 0)),
oo 7 (.mv (kb false))]) (
sq ([
oo 9 (fa 2 3),
ol 10 false 1 9,
oo 11 (.mkf 428 [] [.t 4, .t 5] true),
oo 12 (.call 235 [.t 10, .t 11] 4 true),
om 8 12]) (
sq ([
om 13 8,
oo 14 (.mm true [.t 13, (ki 0)]),
om 15 8,
ob 16 .geq (.t 15) (ki 0),
om 6 14,
om 7 16]) (
.ret))), [.slot 6, .slot 7]⟩
def n408 : Notes := { anns := [], frz := [0, 0, 0, 0, 0, 0, 0, 1], rgs := [] }
def c410 : CFn := ⟨sq ([
oo 3 (.box (.t 1)),
oo 4 (.mv (ki 0))]) (
.seq (sq ([
om 6 0,
oo 7 (.len 0 (.t 6)),
oo 8 (.mv (ki 0))]) (
.block 0 (.loop ⟨[0, 3, 7, 8], [], [], [], [], true⟩ (sq ([
ob 9 .lss (.t 8) (.t 7)]) (
.seq (ct 9 (
.skip) (.exit 0)) (
.seq (.block 1 (sq ([
om 10 8,
om 5 10]) (
.seq (.region true [
ol 11 true 2 3,
om 12 0,
om 13 5,
ow 14 (.ia 2 (.t 12) (.t 13)) 6,
ow 15 (.ld true 2 (.t 14)) 14,
ow 16 (.eqa [.i, .i] false (.t 11) (.t 15)) 31]) (
ct 16 (
sq ([
om 17 5,
om 4 17]) (
.ret)) (.skip))))) (
.region false [
ob 18 .add (.t 8) (ki 1),
om 8 18]))))))) (
sq ([
oo 4 (.mv (.k (.d (.i .i64 (-1)))))]) (
.ret))), [.slot 4]⟩
def n410 : Notes := { anns := [⟨[0, 3, 7, 8], [], [], [], [], true⟩], frz := [], rgs := [] }
def c412 : CFn := ⟨sq ([
oo 2 (.mv (kb false))]) (
.seq (sq ([
oo 3 (.mv (ki 0))]) (
.block 0 (.loop ⟨[0, 3], [], [], [], [], true⟩ (.seq (sq ([
om 5 3,
om 6 0,
oo 7 (.len 0 (.t 6)),
ob 8 .lss (.t 5) (.t 7)]) (
ct 8 (
.skip) (.exit 0))) (
.seq (.block 1 (.seq (sq ([
oo 4 (.mv (ki 0))]) (
.block 2 (.loop ⟨[0, 3, 4], [], [], [], [], true⟩ (.seq (sq ([
om 11 4,
om 12 3,
ob 13 .lss (.t 11) (.t 12)]) (
ct 13 (
.skip) (.exit 2))) (
.seq (.block 3 (.seq (.region true [
om 16 0,
om 17 3,
ow 18 (.ia 1 (.t 16) (.t 17)) 3,
ow 19 (.ld false 1 (.t 18)) 7,
om 20 0,
om 21 4,
ow 22 (.ia 1 (.t 20) (.t 21)) 48,
ow 23 (.ld false 1 (.t 22)) 112,
ow 24 (.bin .eql (.t 19) (.t 23)) 255]) (
ct 24 (
sq ([
oo 2 (.mv (kb false))]) (
.ret)) (.skip)))) (
.region false [
om 14 4,
ob 15 .add (.t 14) (ki 1),
om 4 15])))))) (
sq ([
om 25 0,
om 26 3,
oo 27 (.ia 1 (.t 25) (.t 26)),
ol 28 false 1 27,
oo 29 (.call 429 [.t 28] 0 true),
oo 30 (.un .not (.t 29))]) (
ct 30 (
sq ([
oo 2 (.mv (kb false))]) (
.ret)) (.skip))))) (
.region false [
om 9 3,
ob 10 .add (.t 9) (ki 1),
om 3 10])))))) (
sq ([
oo 2 (.mv (kb true))]) (
.ret))), [.slot 2]⟩
def n412 : Notes := { anns := [⟨[0, 3], [], [], [], [], true⟩, ⟨[0, 3, 4], [], [], [], [], true⟩], frz := [], rgs := [] }
def c413 : CFn := ⟨sq ([
oo 3 (.box (.t 0)),
oo 4 (.box (.t 1)),
oo 6 (.mv (.k (.nil 1))),
oo 7 (.mv (kb false))]) (
sq ([
oo 12 (fa 0 4),
ol 13 false 1 12,
oo 14 (.len 0 (.t 13)),
oo 15 (.mks 1 1 [(.b false)] false (.t 14) (.t 14)),
om 8 15]) (
.seq (sq ([
oo 9 (.mv (ki 0))]) (
.block 0 (.loop ⟨[2, 3, 8, 9], [], [], [], [], true⟩ (.seq (sq ([
om 16 9,
om 17 2,
oo 18 (.len 0 (.t 17)),
ob 19 .lss (.t 16) (.t 18)]) (
ct 19 (
.skip) (.exit 0))) (
.seq (.block 1 (sq ([
om 22 2,
om 23 9,
oo 24 (.ia 2 (.t 22) (.t 23)),
ol 25 true 2 24,
oo 10 (.zero (.agg [(.d (.b false)), (.d (.i .i64 0))])),
oz (.st 2 (.t 10) (.t 25)) 0]) (
.seq (sq ([
oo 26 (fa 0 10),
ol 27 false 1 26]) (
ct 27 (
sq ([
om 28 8,
oo 29 (fa 1 10),
ol 30 false 1 29,
oo 31 (.ia 1 (.t 28) (.t 30)),
oz (.st 1 (.t 31) (kb true)) 0]) (
sq ([
om 32 8,
om 6 32,
oo 7 (.mv (kb false))]) (
.ret))) (.skip))) (
.seq (sq ([
oo 11 (.mv (ki 0))]) (
.block 2 (.loop ⟨[2, 3, 8, 9, 10, 11], [], [], [], [], true⟩ (.seq (sq ([
om 33 11,
om 34 8,
oo 35 (.len 0 (.t 34)),
ob 36 .lss (.t 33) (.t 35)]) (
ct 36 (
.skip) (.exit 2))) (
.seq (.block 3 (.region false [
om 39 8,
om 40 11,
om 41 8,
om 42 11,
oo 43 (.ia 1 (.t 41) (.t 42)),
ol 44 false 1 43,
om 45 44,
oh 46 (fa 1 3) 45,
oh 47 (.ld false 1 (.t 46)) 45,
oh 48 (fa 1 10) 45,
oh 49 (.ld false 1 (.t 48)) 45,
oh 50 (.ia 1 (.t 47) (.t 49)) 45,
oh 51 (.ld false 1 (.t 50)) 45,
oh 52 (.mv (.t 11)) 45,
oh 53 (.ia 1 (.t 51) (.t 52)) 45,
oh 54 (.ld false 1 (.t 53)) 45,
oo 55 (.pick (.t 45) (kb true) (.t 54)),
oo 56 (.ia 1 (.t 39) (.t 40)),
oz (.st 1 (.t 56) (.t 55)) 0])) (
.region false [
om 37 11,
ob 38 .add (.t 37) (ki 1),
om 11 38])))))) (
sq ([
oo 57 (fa 0 3),
ol 58 false 1 57,
oo 59 (fa 1 10),
ol 60 false 1 59,
oo 61 (.ia 1 (.t 58) (.t 60)),
ol 62 false 1 61,
oo 63 (.un .not (.t 62))]) (
ct 63 (
sq ([
om 64 8,
om 6 64,
oo 7 (.mv (kb false))]) (
.ret)) (.skip))))))) (
.region false [
om 20 9,
ob 21 .add (.t 20) (ki 1),
om 9 21])))))) (
sq ([
om 65 8,
om 6 65,
oo 7 (.mv (kb true))]) (
.ret)))), [.slot 6, .slot 7]⟩
def n413 : Notes := { anns := [⟨[2, 3, 8, 9], [], [], [], [], true⟩, ⟨[2, 3, 8, 9, 10, 11], [], [], [], [], true⟩], frz := [], rgs := [] }
def c414 : CFn := ⟨sq ([
oo 4 (.box (.t 0)),
oo 5 (.box (.t 1)),
oo 6 (.box (.t 2)),
oo 8 (.mv (kb false))]) (
sq ([
oo 9 (.mv (kb false))]) (
.seq (.region true [
ol 15 true 3 4,
ol 16 true 3 5,
oo 17 (fa 1 6),
ow 18 (.ld false 1 (.t 17)) 4,
om 19 3,
ow 20 (.bin .add (.t 19) (ki 1)) 16,
ow 21 (.slc 2 (.t 18) (some (.t 20)) none) 60,
ow 22 (.call 413 [.t 15, .t 16, .t 21] 0 true) 127,
ow 14 (.mv (.t 22)) 255,
ow 23 (.ext (.t 14) 0) 511,
ow 24 (.ext (.t 14) 1) 511,
ow 10 (.mv (.t 23)) 1023,
ow 11 (.mv (.t 24)) 4095]) (
.seq (.region true [
oo 25 (fa 2 4),
ow 26 (.ld false 1 (.t 25)) 1,
oo 27 (fa 1 6),
ow 28 (.ld false 1 (.t 27)) 4,
om 29 3,
ow 30 (.ia 2 (.t 28) (.t 29)) 28,
ow 31 (fa 1 30) 60,
ow 32 (.ld false 1 (.t 31)) 124,
ow 33 (.ia 1 (.t 26) (.t 32)) 255,
ow 34 (.ld false 1 (.t 33)) 511,
ow 12 (.mv (.t 34)) 1023]) (
.seq (sq ([
oo 13 (.mv (ki 0))]) (
.block 0 (.loop ⟨[4, 6, 9, 10, 11, 12, 13], [], [], [], [], true⟩ (.seq (sq ([
om 35 13,
om 36 12,
oo 37 (.len 0 (.t 36)),
ob 38 .lss (.t 35) (.t 37)]) (
ct 38 (
.skip) (.exit 0))) (
.seq (.block 1 (sq ([
om 41 12,
om 42 13,
oo 43 (.ia 1 (.t 41) (.t 42)),
ol 44 false 1 43,
oo 45 (.un .not (.t 44)),
om 46 45,
og 47 (.mv (.t 13)) 46,
og 48 (.mv (.t 10)) 46,
og 49 (.len 0 (.t 48)) 46,
og 50 (.bin .lss (.t 47) (.t 49)) 46,
og 51 (.mv (.t 50)) 46,
og 52 (.mv (.t 10)) 51,
og 53 (.mv (.t 13)) 51,
og 54 (.ia 1 (.t 52) (.t 53)) 51,
og 55 (.ld false 1 (.t 54)) 51,
og 56 (.pick (.t 51) (.t 55) (kb false)) 46,
og 57 (.mv (.t 56)) 46,
oh 58 (.mv (.t 11)) 57,
oh 59 (.mv (.t 58)) 57,
og 60 (fa 2 4) 59,
og 61 (.ld false 1 (.t 60)) 59,
og 62 (fa 0 6) 59,
og 63 (.ld false 1 (.t 62)) 59,
og 64 (.ia 1 (.t 61) (.t 63)) 59,
og 65 (.ld false 1 (.t 64)) 59,
og 66 (.mv (.t 13)) 59,
og 67 (.ia 1 (.t 65) (.t 66)) 59,
og 68 (.ld false 1 (.t 67)) 59,
oh 69 (.pick (.t 59) (.t 68) (kb false)) 57,
og 70 (.pick (.t 57) (kb true) (.t 69)) 46,
oo 71 (.pick (.t 46) (.t 70) (kb false))]) (
ct 71 (
.region false [
om 72 12,
om 73 13,
oo 74 (.ia 1 (.t 72) (.t 73)),
oz (.st 1 (.t 74) (kb true)) 0,
oo 9 (.mv (kb true))]) (.skip)))) (
.region false [
om 39 13,
ob 40 .add (.t 39) (ki 1),
om 13 40])))))) (
sq ([
om 75 9,
om 8 75]) (
.ret)))))), [.slot 8]⟩
def n414 : Notes := { anns := [⟨[4, 6, 9, 10, 11, 12, 13], [], [], [], [], true⟩], frz := [], rgs := [] }
def c416 : CFn := ⟨sq ([
oo 2 (.mv (.k (.nil 2))),
oo 3 (.mv (kb false))]) (
.seq (sq ([
om 6 0,
oo 7 (.len 1 (.t 6)),
ob 8 .lss (.t 7) (ki 1),
om 9 8,
oh 10 (.mv (.t 0)) 9,
oh 11 (.len 1 (.t 10)) 9,
oh 12 (.bin .gtr (.t 11) (ki 24)) 9,
oo 13 (.pick (.t 9) (kb true) (.t 12))]) (
ct 13 (
sq ([
oo 2 (.mv (.k (.nil 2))),
oo 3 (.mv (kb false))]) (
.ret)) (.skip))) (
sq ([
om 14 0,
oo 15 (.build [(.d (.s [])), (.d (.i .i64 0)), (.d (.b false))] [(0, 1, .t 14)]),
oo 16 (.box (.t 15)),
om 4 16]) (
sq ([
om 17 4,
oo 18 (.call 430 [.t 17, (ki 0)] 4 true),
om 5 18]) (
.seq (sq ([
om 19 4,
oo 20 (.nilc (.t 19)),
oo 21 (fa 2 20),
ol 22 false 1 21,
om 23 22,
oh 24 (.mv (.t 4)) 23,
oh 25 (.nilc (.t 24)) 23,
oh 26 (fa 1 25) 23,
oh 27 (.ld false 1 (.t 26)) 23,
oh 28 (.mv (.t 0)) 23,
oh 29 (.len 1 (.t 28)) 23,
oh 30 (.bin .neq (.t 27) (.t 29)) 23,
oo 31 (.pick (.t 23) (kb true) (.t 30))]) (
ct 31 (
sq ([
oo 2 (.mv (.k (.nil 2))),
oo 3 (.mv (kb false))]) (
.ret)) (.skip))) (
sq ([
om 32 5,
om 2 32,
oo 3 (.mv (kb true))]) (
.ret)))))), [.slot 2, .slot 3]⟩
def n416 : Notes := { anns := [], frz := [], rgs := [] }
def c417 : CFn := ⟨sq ([
oo 4 (.mv (ki 0)),
oo 5 (.mv (ki 0)),
oo 6 (.mv (kb false))]) (
sq ([
oo 7 (.mv (ki 0)),
oo 8 (.mv (ki 0))]) (
.seq (sq ([
oo 9 (.mv (ki 0))]) (
.block 0 (.loop ⟨[0, 1, 7, 8, 9], [], [], [], [], true⟩ (.seq (sq ([
om 13 9,
om 14 0,
oo 15 (.len 0 (.t 14)),
ob 16 .lss (.t 13) (.t 15)]) (
ct 16 (
.skip) (.exit 0))) (
.seq (.block 1 (sq ([
om 19 1,
oo 20 (.len 1 (.t 19)),
ob 21 .add (.t 20) (ki 1),
oo 22 (.mks 1 1 [(.b false)] false (.t 21) (.t 21)),
om 10 22]) (
sq ([
om 23 10,
oo 24 (.ia 1 (.t 23) (ki 0)),
oz (.st 1 (.t 24) (kb true)) 0]) (
sq ([
om 25 0,
om 26 9,
oo 27 (.ia 1 (.t 25) (.t 26)),
ol 28 false 1 27,
om 29 1,
om 30 10,
oo 31 (.call 431 [.t 28, .t 29, .t 30] 0 true),
om 11 31]) (
sq ([
om 32 1,
oo 33 (.len 1 (.t 32)),
om 12 33]) (
.block 2 (.loop ⟨[0, 1, 7, 8, 9, 11, 12], [], [], [], [], true⟩ (.seq (sq ([
om 34 12,
om 35 8,
ob 36 .gtr (.t 34) (.t 35)]) (
ct 36 (
.skip) (.exit 2))) (
.seq (.block 3 (sq ([
om 39 11,
om 40 12,
oo 41 (.ia 1 (.t 39) (.t 40)),
ol 42 false 1 41]) (
ct 42 (
.region false [
om 43 9,
om 44 12,
om 7 43,
om 8 44]) (.skip)))) (
.region false [
om 37 12,
ob 38 .sub (.t 37) (ki 1),
om 12 38])))))))))) (
.region false [
om 17 9,
ob 18 .add (.t 17) (ki 1),
om 9 18])))))) (
sq ([
om 45 7,
om 46 8,
om 47 8,
ob 48 .gtr (.t 47) (ki 0),
om 4 45,
om 5 46,
om 6 48]) (
.ret)))), [.slot 4, .slot 5, .slot 6]⟩
def n417 : Notes := { anns := [⟨[0, 1, 7, 8, 9], [], [], [], [], true⟩, ⟨[0, 1, 7, 8, 9, 11, 12], [], [], [], [], true⟩], frz := [], rgs := [] }
def c422 : CFn := ⟨sq ([
oo 3 (.box (.t 0)),
oo 4 (.box (.t 1)),
oo 5 (.box (.t 2)),
oo 6 (.mv (kb false))]) (
.seq (sq ([
oo 7 (fa 0 5),
ol 8 false 1 7]) (
ct 8 (
sq ([
oo 9 (fa 1 4),
ol 10 false 1 9,
oo 11 (.bin .eql (.t 10) (.k (.d (.i .i64 (-1))))),
om 12 11,
og 13 (fa 2 4) 12,
og 14 (.ld false 1 (.t 13)) 12,
og 15 (fa 1 5) 12,
og 16 (.ld false 1 (.t 15)) 12,
og 17 (.bin .eql (.t 14) (.t 16)) 12,
oo 18 (.pick (.t 12) (.t 17) (kb false)),
om 6 18]) (
.ret)) (.skip))) (
.seq (.region true [
oo 19 (fa 1 4),
ow 20 (.ld false 1 (.t 19)) 1,
ow 21 (.bin .geq (.t 20) (ki 0)) 3,
ow 22 (.mv (.t 21)) 7,
⟨some 23, .fa 1 (.t 4), (some (22, true)), 15⟩,
⟨some 24, .ld false 1 (.t 23), (some (22, true)), 31⟩,
⟨some 25, .fa 2 (.t 3), (some (22, true)), 15⟩,
⟨some 26, .ld false 1 (.t 25), (some (22, true)), 79⟩,
⟨some 27, .len 0 (.t 26), (some (22, true)), 207⟩,
⟨some 28, .bin .lss (.t 24) (.t 27), (some (22, true)), 511⟩,
ow 29 (.pick (.t 22) (.t 28) (kb false)) 1023,
ow 30 (.mv (.t 29)) 2047,
⟨some 31, .fa 2 (.t 3), (some (30, true)), 4095⟩,
⟨some 32, .ld false 1 (.t 31), (some (30, true)), 8191⟩,
⟨some 33, .fa 1 (.t 4), (some (30, true)), 4095⟩,
⟨some 34, .ld false 1 (.t 33), (some (30, true)), 20479⟩,
⟨some 35, .ia 3 (.t 32) (.t 34), (some (30, true)), 65535⟩,
⟨some 36, .fa 0 (.t 35), (some (30, true)), 131071⟩,
⟨some 37, .ld false 1 (.t 36), (some (30, true)), 262143⟩,
⟨some 38, .fa 1 (.t 5), (some (30, true)), 4095⟩,
⟨some 39, .ld false 1 (.t 38), (some (30, true)), 528383⟩,
⟨some 40, .bin .eql (.t 37) (.t 39), (some (30, true)), 2097151⟩,
ow 41 (.pick (.t 30) (.t 40) (kb false)) 4194303,
ow 6 (.mv (.t 41)) 8388607]) (
.ret))), [.slot 6]⟩
def n422 : Notes := { anns := [], frz := [], rgs := [] }
def c423 : CFn := ⟨sq ([
oo 1 (.box (.t 0)),
oo 2 (.mv (.k (.nil 1)))]) (
sq ([
oo 6 (fa 0 1),
ol 7 false 1 6,
oo 8 (.len 0 (.t 7)),
oo 9 (.mks 1 8 [(.i .i64 0)] false (.t 8) (.t 8)),
om 3 9]) (
.seq (sq ([
om 10 3,
oo 11 (.len 0 (.t 10)),
ob 12 .sub (.t 11) (ki 1),
om 4 12]) (
.block 0 (.loop ⟨[1, 3, 4], [], [], [], [], true⟩ (.seq (sq ([
om 13 4,
ob 14 .geq (.t 13) (ki 0)]) (
ct 14 (
.skip) (.exit 0))) (
.seq (.block 1 (sq ([
om 17 4,
ob 18 .add (.t 17) (ki 1),
om 5 18]) (
.seq (sq ([
oo 19 (fa 0 1),
ol 20 false 1 19,
om 21 4,
oo 22 (.ia 5 (.t 20) (.t 21)),
oo 23 (fa 4 22),
ol 24 false 1 23,
oo 25 (.len 0 (.t 24)),
oo 26 (.mv (ki 0))]) (
.block 2 (.loop ⟨[1, 3, 4, 5, 25, 26], [], [], [], [], true⟩ (sq ([
ob 27 .lss (.t 26) (.t 25)]) (
.seq (ct 27 (
.skip) (.exit 2)) (
.seq (.block 3 (.seq (sq ([
om 28 5,
om 29 3,
oo 30 (.len 0 (.t 29)),
ob 31 .geq (.t 28) (.t 30)]) (
ct 31 (
.exit 2) (.skip))) (
.region false [
om 32 3,
om 33 5,
oo 34 (.ia 1 (.t 32) (.t 33)),
ol 35 false 1 34,
om 5 35]))) (
.region false [
ob 36 .add (.t 26) (ki 1),
om 26 36]))))))) (
.region false [
om 37 3,
om 38 4,
om 39 5,
oo 40 (.ia 1 (.t 37) (.t 38)),
oz (.st 1 (.t 40) (.t 39)) 0])))) (
.region false [
om 15 4,
ob 16 .sub (.t 15) (ki 1),
om 4 16])))))) (
sq ([
om 41 3,
om 2 41]) (
.ret)))), [.slot 2]⟩
def n423 : Notes := { anns := [⟨[1, 3, 4], [], [], [], [], true⟩, ⟨[1, 3, 4, 5, 25, 26], [], [], [], [], true⟩], frz := [], rgs := [] }
def c424 : CFn := ⟨sq ([
oo 4 (.box (.t 0)),
oo 5 (.box (.t 1)),
oo 8 (.mv (kb false))]) (
sq ([
oo 13 (fa 0 5),
ol 14 false 1 13,
om 15 3,
oo 16 (.ia 5 (.t 14) (.t 15)),
ol 17 true 5 16,
oo 9 (.zero (.agg [(.d (.i .i64 0)), (.d (.i .i64 0)), (.d (.i .i64 0)), (.d (.s [])), (.nil 1)])),
oz (.st 5 (.t 9) (.t 17)) 0]) (
.seq (sq ([
oo 18 (fa 1 9),
ol 19 false 1 18,
oo 20 (.bin .eql (.t 19) (.k (.d (.i .i64 (-1)))))]) (
ct 20 (
sq ([
ol 21 true 3 4,
ol 22 true 5 9,
oo 23 (.call 432 [.t 21, .t 22] 0 true),
om 8 23]) (
.ret)) (.skip))) (
.seq (.seq (.region true [
oo 24 (fa 1 9),
ow 25 (.ld false 1 (.t 24)) 1,
ow 26 (.bin .lss (.t 25) (ki 0)) 3,
ow 27 (.mv (.t 26)) 7,
⟨some 28, .fa 1 (.t 9), (some (27, false)), 15⟩,
⟨some 29, .ld false 1 (.t 28), (some (27, false)), 31⟩,
⟨some 30, .fa 2 (.t 4), (some (27, false)), 15⟩,
⟨some 31, .ld false 1 (.t 30), (some (27, false)), 79⟩,
⟨some 32, .len 0 (.t 31), (some (27, false)), 207⟩,
⟨some 33, .bin .geq (.t 29) (.t 32), (some (27, false)), 511⟩,
ow 34 (.pick (.t 27) (kb true) (.t 33)) 1023,
ow 35 (.mv (.t 34)) 2047,
⟨some 36, .fa 2 (.t 9), (some (35, false)), 4095⟩,
⟨some 37, .ld false 1 (.t 36), (some (35, false)), 8191⟩,
⟨some 38, .bin .neq (.t 37) (ki 0), (some (35, false)), 16383⟩,
ow 39 (.pick (.t 35) (kb true) (.t 38)) 32767,
ow 40 (.mv (.t 39)) 65535,
⟨some 41, .fa 3 (.t 9), (some (40, false)), 131071⟩,
⟨some 42, .ld false 1 (.t 41), (some (40, false)), 262143⟩,
⟨some 43, .bin .neq (.t 42) (.k (.d (.s []))), (some (40, false)), 524287⟩,
ow 44 (.pick (.t 40) (kb true) (.t 43)) 1048575,
ow 45 (.mv (.t 44)) 2097151,
⟨some 46, .fa 4 (.t 9), (some (45, false)), 4194303⟩,
⟨some 47, .ld false 1 (.t 46), (some (45, false)), 8388607⟩,
⟨some 48, .len 0 (.t 47), (some (45, false)), 16777215⟩,
⟨some 49, .fa 2 (.t 4), (some (45, false)), 4194303⟩,
⟨some 50, .ld false 1 (.t 49), (some (45, false)), 37748735⟩,
⟨some 51, .fa 1 (.t 9), (some (45, false)), 4194303⟩,
⟨some 52, .ld false 1 (.t 51), (some (45, false)), 138412031⟩,
⟨some 53, .ia 3 (.t 50) (.t 52), (some (45, false)), 507510783⟩,
⟨some 54, .fa 1 (.t 53), (some (45, false)), 1044381695⟩,
⟨some 55, .ld false 1 (.t 54), (some (45, false)), 2118123519⟩,
⟨some 56, .len 0 (.t 55), (some (45, false)), 4265607167⟩,
⟨some 57, .bin .neq (.t 48) (.t 56), (some (45, false)), 8589934591⟩,
ow 58 (.pick (.t 45) (kb true) (.t 57)) 17179869183]) (
ct 58 (
sq ([
oo 8 (.mv (kb false))]) (
.ret)) (.skip))) (
sq ([
om 59 3,
ob 60 .add (.t 59) (ki 1),
om 10 60]) (
.seq (sq ([
oo 61 (fa 2 4),
ol 62 false 1 61,
oo 63 (fa 1 9),
ol 64 false 1 63,
oo 65 (.ia 3 (.t 62) (.t 64)),
oo 66 (fa 1 65),
ol 67 false 1 66,
oo 68 (.len 0 (.t 67)),
oo 69 (.mv (ki 0))]) (
.block 0 (.loop ⟨[2, 4, 5, 9, 10, 67, 68, 69], [], [], [], [], true⟩ (sq ([
ob 70 .lss (.t 69) (.t 68)]) (
.seq (ct 70 (
.skip) (.exit 0)) (
.seq (.block 1 (sq ([
om 71 69,
oo 72 (.ia 2 (.t 67) (.t 69)),
ol 73 true 2 72,
oo 12 (.zero (.agg [(.d (.b false)), (.d (.i .i64 0))])),
om 11 71,
oz (.st 2 (.t 12) (.t 73)) 0]) (
.seq (.seq (.region true [
om 74 10,
oo 75 (fa 0 5),
ow 76 (.ld false 1 (.t 75)) 2,
ow 77 (.len 0 (.t 76)) 6,
ow 78 (.bin .geq (.t 74) (.t 77)) 15,
ow 79 (.mv (.t 78)) 31,
⟨some 80, .fa 0 (.t 5), (some (79, false)), 63⟩,
⟨some 81, .ld false 1 (.t 80), (some (79, false)), 127⟩,
⟨some 82, .mv (.t 10), (some (79, false)), 63⟩,
⟨some 83, .ia 5 (.t 81) (.t 82), (some (79, false)), 511⟩,
⟨some 84, .fa 0 (.t 83), (some (79, false)), 1023⟩,
⟨some 85, .ld false 1 (.t 84), (some (79, false)), 2047⟩,
⟨some 86, .fa 4 (.t 9), (some (79, false)), 63⟩,
⟨some 87, .ld false 1 (.t 86), (some (79, false)), 4159⟩,
⟨some 88, .mv (.t 11), (some (79, false)), 63⟩,
⟨some 89, .ia 1 (.t 87) (.t 88), (some (79, false)), 28735⟩,
⟨some 90, .ld false 1 (.t 89), (some (79, false)), 61503⟩,
⟨some 91, .bin .neq (.t 85) (.t 90), (some (79, false)), 131071⟩,
ow 92 (.pick (.t 79) (kb true) (.t 91)) 262143,
ow 93 (.mv (.t 92)) 524287,
⟨some 94, .ld true 3 (.t 4), (some (93, false)), 1048575⟩,
⟨some 95, .fa 0 (.t 5), (some (93, false)), 1048575⟩,
⟨some 96, .ld false 1 (.t 95), (some (93, false)), 3145727⟩,
⟨some 97, .mv (.t 10), (some (93, false)), 1048575⟩,
⟨some 98, .ia 5 (.t 96) (.t 97), (some (93, false)), 15728639⟩,
⟨some 99, .ld true 5 (.t 98), (some (93, false)), 32505855⟩,
⟨some 100, .ld true 2 (.t 12), (some (93, false)), 1048575⟩,
⟨some 101, .call 422 [.t 94, .t 99, .t 100] 0 true, (some (93, false)), 134217727⟩,
⟨some 102, .un .not (.t 101), (some (93, false)), 268435455⟩,
ow 103 (.pick (.t 93) (kb true) (.t 102)) 536870911]) (
ct 103 (
sq ([
oo 8 (.mv (kb false))]) (
.ret)) (.skip))) (
.region false [
om 104 2,
om 105 10,
oo 106 (.ia 1 (.t 104) (.t 105)),
ol 107 false 1 106,
om 10 107])))) (
.region false [
ob 108 .add (.t 69) (ki 1),
om 69 108]))))))) (
sq ([
oo 8 (.mv (kb true))]) (
.ret))))))), [.slot 8]⟩
def n424 : Notes := { anns := [⟨[2, 4, 5, 9, 10, 67, 68, 69], [], [], [], [], true⟩], frz := [], rgs := [] }
def c425 : CFn := ⟨sq ([
oo 4 (.mv (ki 0))]) (
.seq (sq ([
om 6 0,
oo 7 (.len 0 (.t 6)),
oo 8 (.mv (ki 0))]) (
.block 0 (.loop ⟨[0, 1, 7, 8], [], [], [], [], true⟩ (sq ([
ob 9 .lss (.t 8) (.t 7)]) (
.seq (ct 9 (
.skip) (.exit 0)) (
.seq (.block 1 (sq ([
om 10 8,
om 5 10]) (
sq ([
om 11 1,
om 12 0,
om 13 5,
oo 14 (.ia 5 (.t 12) (.t 13)),
ol 15 true 5 14,
oo 16 (.callv (.t 11) [.t 15] 4 true)]) (
ct 16 (
sq ([
om 17 5,
om 4 17]) (
.ret)) (.skip))))) (
.region false [
ob 18 .add (.t 8) (ki 1),
om 8 18]))))))) (
sq ([
oo 4 (.mv (.k (.d (.i .i64 (-1)))))]) (
.ret))), [.slot 4]⟩
def n425 : Notes := { anns := [⟨[0, 1, 7, 8], [], [], [], [], true⟩], frz := [], rgs := [] }
def c426 : CFn := ⟨sq ([
oo 2 (.box (.t 0)),
oo 3 (.mv (kb false))]) (
sq ([
oo 4 (fa 0 2),
ol 5 false 1 4,
ol 6 false 1 1,
ob 7 .eql (.t 5) (.t 6),
om 3 7]) (
.ret)), [.slot 3]⟩
def n426 : Notes := { anns := [], frz := [], rgs := [] }
def c427 : CFn := ⟨sq ([
oo 4 (.mv (ki 0))]) (
.seq (sq ([
om 6 0,
oo 7 (.len 0 (.t 6)),
oo 8 (.mv (ki 0))]) (
.block 0 (.loop ⟨[0, 1, 7, 8], [], [], [], [], true⟩ (sq ([
ob 9 .lss (.t 8) (.t 7)]) (
.seq (ct 9 (
.skip) (.exit 0)) (
.seq (.block 1 (sq ([
om 10 8,
om 5 10]) (
sq ([
om 11 1,
om 12 0,
om 13 5,
oo 14 (.ia 1 (.t 12) (.t 13)),
ol 15 false 1 14,
ob 16 .eql (.t 11) (.t 15)]) (
ct 16 (
sq ([
om 17 5,
om 4 17]) (
.ret)) (.skip))))) (
.region false [
ob 18 .add (.t 8) (ki 1),
om 8 18]))))))) (
sq ([
oo 4 (.mv (.k (.d (.i .i64 (-1)))))]) (
.ret))), [.slot 4]⟩
def n427 : Notes := { anns := [⟨[0, 1, 7, 8], [], [], [], [], true⟩], frz := [], rgs := [] }
def c428 : CFn := ⟨sq ([
oo 3 (.box (.t 0)),
oo 4 (.mv (kb false))]) (
sq ([
oo 5 (fa 0 3),
ol 6 false 1 5,
ol 7 false 1 1,
ob 8 .eql (.t 6) (.t 7),
om 9 8,
og 10 (fa 1 3) 9,
og 11 (.ld false 1 (.t 10)) 9,
og 12 (.ld false 1 (.t 2)) 9,
og 13 (.bin .eql (.t 11) (.t 12)) 9,
oo 14 (.pick (.t 9) (.t 13) (kb false)),
om 4 14]) (
.ret)), [.slot 4]⟩
def n428 : Notes := { anns := [], frz := [], rgs := [] }
def c429 : CFn := ⟨sq ([
oo 2 (.mv (kb false))]) (
.seq (sq ([
oo 3 (.mv (ki 0))]) (
.block 0 (.loop ⟨[0, 3], [], [], [], [], true⟩ (.seq (sq ([
om 5 3,
om 6 0,
oo 7 (.len 1 (.t 6)),
ob 8 .lss (.t 5) (.t 7)]) (
ct 8 (
.skip) (.exit 0))) (
.seq (.block 1 (sq ([
om 11 0,
om 12 3,
oo 13 (.ixs (.t 11) (.t 12)),
oo 14 (.bin .geq (.t 13) (.k (.d (.i .u8 97)))),
om 15 14,
og 16 (.mv (.t 0)) 15,
og 17 (.mv (.t 3)) 15,
og 18 (.ixs (.t 16) (.t 17)) 15,
og 19 (.bin .leq (.t 18) (.k (.d (.i .u8 122)))) 15,
oo 20 (.pick (.t 15) (.t 19) (kb false)),
om 4 20]) (
sq ([
om 21 4,
oo 22 (.un .not (.t 21)),
om 23 22,
og 24 (.mv (.t 3)) 23,
og 25 (.bin .eql (.t 24) (ki 0)) 23,
og 26 (.mv (.t 25)) 23,
oh 27 (.mv (.t 0)) 26,
oh 28 (.mv (.t 3)) 26,
oh 29 (.ixs (.t 27) (.t 28)) 26,
oh 30 (.bin .lss (.t 29) (.k (.d (.i .u8 48)))) 26,
og 31 (.pick (.t 26) (kb true) (.t 30)) 23,
og 32 (.mv (.t 31)) 23,
oh 33 (.mv (.t 0)) 32,
oh 34 (.mv (.t 3)) 32,
oh 35 (.ixs (.t 33) (.t 34)) 32,
oh 36 (.bin .gtr (.t 35) (.k (.d (.i .u8 57)))) 32,
og 37 (.pick (.t 32) (kb true) (.t 36)) 23,
oo 38 (.pick (.t 23) (.t 37) (kb false))]) (
ct 38 (
sq ([
oo 2 (.mv (kb false))]) (
.ret)) (.skip))))) (
.region false [
om 9 3,
ob 10 .add (.t 9) (ki 1),
om 3 10])))))) (
sq ([
om 39 0,
oo 40 (.len 1 (.t 39)),
ob 41 .geq (.t 40) (ki 1),
om 42 41,
og 43 (.mv (.t 0)) 42,
og 44 (.len 1 (.t 43)) 42,
og 45 (.bin .leq (.t 44) (ki 8)) 42,
oo 46 (.pick (.t 42) (.t 45) (kb false)),
om 2 46]) (
.ret))), [.slot 2]⟩
def n429 : Notes := { anns := [⟨[0, 3], [], [], [], [], true⟩], frz := [], rgs := [] }
def c430 : CFn := ⟨sq ([
oo 4 (.mv (.k (.nil 2)))]) (
sq ([
om 6 0,
om 7 1,
oo 8 (.call 433 [.t 6, .t 7] 68 false),
om 5 8]) (
.seq (.block 0 (.loop ⟨[0, 1, 5], [], [], [], [], false⟩ (.seq (sq ([
om 9 0,
oo 10 (.nilc (.t 9)),
oo 11 (fa 2 10),
ol 12 false 1 11,
oo 13 (.un .not (.t 12)),
om 14 13,
og 15 (.mv (.t 0)) 14,
og 16 (.call 434 [.t 15] 4 true) 14,
og 17 (.bin .eql (.t 16) (.k (.d (.i .u8 124)))) 14,
oo 18 (.pick (.t 14) (.t 17) (kb false))]) (
ct 18 (
.skip) (.exit 0))) (
.block 1 (sq ([
om 19 0,
oo 20 (.nilc (.t 19)),
oo 21 (fa 1 20),
ol 22 false 1 21,
ob 23 .add (.t 22) (ki 1),
oo 24 (.nilc (.t 19)),
oo 25 (fa 1 24),
oz (.st 1 (.t 25) (.t 23)) 0]) (
.region false [
om 26 5,
om 27 0,
om 28 1,
oo 29 (.call 433 [.t 27, .t 28] 68 false),
oo 30 (.apa 2 32 (.t 26) (.t 29)),
oo 31 (.build [(.d (.i .i64 0)), (.nil 2)] [(0, 1, (ki 3))]),
oo 32 (.bsa 2 1 [(.i .i64 0), (.l 2 [])] [(0, .t 31)]),
oo 33 (.apa 2 32 (.t 30) (.t 32)),
om 5 33])))))) (
sq ([
om 34 5,
om 4 34]) (
.ret)))), [.slot 4]⟩
def n430 : Notes := { anns := [⟨[0, 1, 5], [], [], [], [], false⟩], frz := [0, 0, 0, 64, 0, 0, 0, 0, 0, 0, 0, 0, 0, 0, 0, 0, 0, 0, 0, 0, 0, 0, 0, 0, 0, 0, 64, 1, 0, 1, 1], rgs := [] }
def c431 : CFn := ⟨sq ([
oo 6 (.mv (.k (.nil 1)))]) (
sq ([
om 16 1,
oo 17 (.len 1 (.t 16)),
ob 18 .add (.t 17) (ki 1),
oo 19 (.mks 1 1 [(.b false)] false (.t 18) (.t 18)),
om 7 19]) (
.seq (sq ([
om 20 0,
oo 21 (.len 0 (.t 20)),
ob 22 .eql (.t 21) (ki 0)]) (
ct 22 (
sq ([
om 23 7,
om 6 23]) (
.ret)) (.skip))) (
sq ([
om 24 0,
oo 25 (.len 0 (.t 24)),
ob 26 .sub (.t 25) (ki 1),
om 8 26]) (
sq ([
om 27 0,
om 28 8,
oo 29 (.slc 2 (.t 27) none (some (.t 28))),
om 9 29]) (
.seq (sq ([
om 30 0,
om 31 8,
oo 32 (.ia 2 (.t 30) (.t 31)),
oo 33 (fa 0 32),
ol 34 false 1 33]) (
.block 0 (sq ([
ob 62 .eql (.t 34) (ki 1),
om 61 62]) (
ct 61 (
sq ([
oo 10 (.mv (ki 0))]) (
.block 3 (.loop ⟨[0, 1, 2, 7, 8, 10], [], [], [], [], true⟩ (.seq (sq ([
om 63 10,
om 64 1,
oo 65 (.len 1 (.t 64)),
ob 66 .lss (.t 63) (.t 65)]) (
ct 66 (
.skip) (.exit 3))) (
.seq (.block 4 (sq ([
oo 11 (.mv (ki 0))]) (
.block 5 (.loop ⟨[0, 1, 2, 7, 8, 10, 11], [], [], [], [], true⟩ (.seq (sq ([
om 69 11,
om 70 0,
om 71 8,
oo 72 (.ia 2 (.t 70) (.t 71)),
oo 73 (fa 1 72),
ol 74 false 1 73,
oo 75 (.len 0 (.t 74)),
ob 76 .lss (.t 69) (.t 75),
om 77 76,
og 78 (.mv (.t 2)) 77,
og 79 (.mv (.t 10)) 77,
og 80 (.ia 1 (.t 78) (.t 79)) 77,
og 81 (.ld false 1 (.t 80)) 77,
oo 82 (.pick (.t 77) (.t 81) (kb false))]) (
ct 82 (
.skip) (.exit 5))) (
.seq (.block 6 (.seq (.region true [
om 85 1,
om 86 10,
ow 87 (.ixs (.t 85) (.t 86)) 3,
om 88 0,
om 89 8,
ow 90 (.ia 2 (.t 88) (.t 89)) 24,
ow 91 (fa 1 90) 56,
ow 92 (.ld false 1 (.t 91)) 120,
om 93 11,
ow 94 (.ia 2 (.t 92) (.t 93)) 504,
ow 95 (fa 0 94) 1016,
ow 96 (.ld false 1 (.t 95)) 2040,
ow 97 (.bin .geq (.t 87) (.t 96)) 4095,
ow 98 (.mv (.t 97)) 8191,
⟨some 99, .mv (.t 1), (some (98, true)), 16383⟩,
⟨some 100, .mv (.t 10), (some (98, true)), 16383⟩,
⟨some 101, .ixs (.t 99) (.t 100), (some (98, true)), 65535⟩,
⟨some 102, .mv (.t 0), (some (98, true)), 16383⟩,
⟨some 103, .mv (.t 8), (some (98, true)), 16383⟩,
⟨some 104, .ia 2 (.t 102) (.t 103), (some (98, true)), 409599⟩,
⟨some 105, .fa 1 (.t 104), (some (98, true)), 933887⟩,
⟨some 106, .ld false 1 (.t 105), (some (98, true)), 1982463⟩,
⟨some 107, .mv (.t 11), (some (98, true)), 16383⟩,
⟨some 108, .ia 2 (.t 106) (.t 107), (some (98, true)), 8273919⟩,
⟨some 109, .fa 1 (.t 108), (some (98, true)), 16662527⟩,
⟨some 110, .ld false 1 (.t 109), (some (98, true)), 33439743⟩,
⟨some 111, .bin .leq (.t 101) (.t 110), (some (98, true)), 67108863⟩,
ow 112 (.pick (.t 98) (.t 111) (kb false)) 134217727]) (
ct 112 (
.region false [
om 113 7,
om 114 10,
ob 115 .add (.t 114) (ki 1),
oo 116 (.ia 1 (.t 113) (.t 115)),
oz (.st 1 (.t 116) (kb true)) 0]) (.skip)))) (
.region false [
om 83 11,
ob 84 .add (.t 83) (ki 1),
om 11 84]))))))) (
.region false [
om 67 10,
ob 68 .add (.t 67) (ki 1),
om 10 68])))))) (sq ([
ob 118 .eql (.t 34) (ki 2),
om 117 118]) (
ct 117 (
sq ([
om 119 9,
om 120 8,
ob 121 .sub (.t 120) (ki 1),
oo 122 (.call 435 [.t 119, .t 121] 0 true),
om 12 122]) (
.seq (.region true [
om 123 9,
om 124 12,
ow 125 (.slc 2 (.t 123) (some (.t 124)) none) 3,
om 126 1,
om 127 9,
om 128 12,
ow 129 (.slc 2 (.t 127) none (some (.t 128))) 48,
om 130 1,
om 131 2,
ow 132 (.call 431 [.t 129, .t 130, .t 131] 0 true) 496,
ow 133 (.call 431 [.t 125, .t 126, .t 132] 0 true) 1023,
ow 6 (.mv (.t 133)) 2047]) (
.ret))) (sq ([
ob 135 .eql (.t 34) (ki 3),
om 134 135]) (
ct 134 (
sq ([
om 136 9,
om 137 8,
ob 138 .sub (.t 137) (ki 1),
oo 139 (.call 435 [.t 136, .t 138] 0 true),
om 13 139]) (
.seq (.region true [
om 140 9,
om 141 13,
ow 142 (.slc 2 (.t 140) none (some (.t 141))) 3,
om 143 1,
om 144 2,
ow 145 (.call 431 [.t 142, .t 143, .t 144] 0 true) 31,
om 146 9,
om 147 13,
ow 148 (.slc 2 (.t 146) (some (.t 147)) none) 192,
om 149 1,
om 150 2,
ow 151 (.call 431 [.t 148, .t 149, .t 150] 0 true) 2047,
ow 152 (.call 436 [.t 145, .t 151] 0 true) 4095,
ow 6 (.mv (.t 152)) 8191]) (
.ret))) (sq ([
ob 154 .eql (.t 34) (ki 6),
om 153 154]) (
ct 153 (
sq ([
om 155 2,
om 156 9,
om 157 1,
om 158 2,
oo 159 (.call 431 [.t 156, .t 157, .t 158] 0 true),
oo 160 (.call 436 [.t 155, .t 159] 0 true),
om 6 160]) (
.ret)) (sq ([
om 35 9,
om 36 1,
om 37 2,
oo 38 (.call 431 [.t 35, .t 36, .t 37] 0 true),
om 14 38]) (
.seq (sq ([
oo 15 (.mv (ki 0))]) (
.block 1 (.loop ⟨[0, 1, 2, 8, 9, 14, 15], [], [], [14], [], true⟩ (.seq (sq ([
om 39 15,
om 40 1,
oo 41 (.len 1 (.t 40)),
ob 42 .leq (.t 39) (.t 41)]) (
ct 42 (
.skip) (.exit 1))) (
.seq (.block 2 (.region false [
om 45 14,
om 46 9,
om 47 1,
om 48 14,
oo 49 (.call 431 [.t 46, .t 47, .t 48] 0 true),
oo 50 (.call 436 [.t 45, .t 49] 0 true),
om 14 50])) (
.region false [
om 43 15,
ob 44 .add (.t 43) (ki 1),
om 15 44])))))) (
.seq (sq ([
om 51 0,
om 52 8,
oo 53 (.ia 2 (.t 51) (.t 52)),
oo 54 (fa 0 53),
ol 55 false 1 54,
ob 56 .eql (.t 55) (ki 4)]) (
ct 56 (
sq ([
om 57 2,
om 58 14,
oo 59 (.call 436 [.t 57, .t 58] 0 true),
om 6 59]) (
.ret)) (.skip))) (
sq ([
om 60 14,
om 6 60]) (
.ret))))))))))))))) (
sq ([
om 161 7,
om 6 161]) (
.ret))))))), [.slot 6]⟩
def n431 : Notes := { anns := [⟨[0, 1, 2, 7, 8, 10], [], [], [], [], true⟩, ⟨[0, 1, 2, 7, 8, 10, 11], [], [], [], [], true⟩, ⟨[0, 1, 2, 8, 9, 14, 15], [], [], [14], [], true⟩], frz := [], rgs := [] }
def c432 : CFn := ⟨sq ([
oo 2 (.box (.t 0)),
oo 3 (.box (.t 1)),
oo 4 (.mv (kb false))]) (
sq ([
oo 5 (fa 2 3),
ol 6 false 1 5,
ob 7 .geq (.t 6) (ki 0),
om 8 7,
og 9 (fa 2 3) 8,
og 10 (.ld false 1 (.t 9)) 8,
og 11 (fa 0 2) 8,
og 12 (.ld false 1 (.t 11)) 8,
og 13 (.len 0 (.t 12)) 8,
og 14 (.bin .lss (.t 10) (.t 13)) 8,
oo 15 (.pick (.t 8) (.t 14) (kb false)),
om 16 15,
og 17 (fa 4 3) 16,
og 18 (.ld false 1 (.t 17)) 16,
og 19 (.len 0 (.t 18)) 16,
og 20 (.bin .eql (.t 19) (ki 0)) 16,
oo 21 (.pick (.t 16) (.t 20) (kb false)),
om 4 21]) (
.ret)), [.slot 4]⟩
def n432 : Notes := { anns := [], frz := [], rgs := [] }
def c433 : CFn := ⟨sq ([
oo 4 (.mv (.k (.nil 2)))]) (
sq ([
om 6 0,
om 7 1,
oo 8 (.call 437 [.t 6, .t 7] 68 false),
om 5 8]) (
.seq (.block 0 (.loop ⟨[0, 1, 5], [], [], [], [], false⟩ (.seq (.seq (.region true [
om 9 0,
ow 10 (.nilc (.t 9)) 1,
ow 11 (fa 2 10) 3,
ow 12 (.ld false 1 (.t 11)) 7,
ow 13 (.un .not (.t 12)) 15,
ow 14 (.mv (.t 13)) 31,
⟨some 15, .mv (.t 0), (some (14, true)), 63⟩,
⟨some 16, .nilc (.t 15), (some (14, true)), 127⟩,
⟨some 17, .fa 1 (.t 16), (some (14, true)), 255⟩,
⟨some 18, .ld false 1 (.t 17), (some (14, true)), 511⟩,
⟨some 19, .mv (.t 0), (some (14, true)), 63⟩,
⟨some 20, .nilc (.t 19), (some (14, true)), 1087⟩,
⟨some 21, .fa 0 (.t 20), (some (14, true)), 3135⟩,
⟨some 22, .ld false 1 (.t 21), (some (14, true)), 7231⟩,
⟨some 23, .len 1 (.t 22), (some (14, true)), 15423⟩,
⟨some 24, .bin .lss (.t 18) (.t 23), (some (14, true)), 32767⟩,
ow 25 (.pick (.t 14) (.t 24) (kb false)) 65535,
ow 26 (.mv (.t 25)) 131071,
⟨some 27, .mv (.t 0), (some (26, true)), 262143⟩,
⟨some 28, .call 434 [.t 27] 4 true, (some (26, true)), 524287⟩,
⟨some 29, .bin .neq (.t 28) (.k (.d (.i .u8 124))), (some (26, true)), 1048575⟩,
ow 30 (.pick (.t 26) (.t 29) (kb false)) 2097151,
ow 31 (.mv (.t 30)) 4194303,
⟨some 32, .mv (.t 0), (some (31, true)), 8388607⟩,
⟨some 33, .call 434 [.t 32] 4 true, (some (31, true)), 16777215⟩,
⟨some 34, .bin .neq (.t 33) (.k (.d (.i .u8 41))), (some (31, true)), 33554431⟩,
ow 35 (.pick (.t 31) (.t 34) (kb false)) 67108863]) (
ct 35 (
.skip) (.exit 0))) (
.block 1 (.region false [
om 36 5,
om 37 0,
om 38 1,
oo 39 (.call 437 [.t 37, .t 38] 68 false),
oo 40 (.apa 2 32 (.t 36) (.t 39)),
oo 41 (.build [(.d (.i .i64 0)), (.nil 2)] [(0, 1, (ki 2))]),
oo 42 (.bsa 2 1 [(.i .i64 0), (.l 2 [])] [(0, .t 41)]),
oo 43 (.apa 2 32 (.t 40) (.t 42)),
om 5 43]))))) (
sq ([
om 44 5,
om 4 44]) (
.ret)))), [.slot 4]⟩
def n433 : Notes := { anns := [⟨[0, 1, 5], [], [], [], [], false⟩], frz := [0, 0, 0, 64, 0, 0, 0, 0, 0, 0, 0, 0, 0, 0, 0, 0, 0, 0, 0, 0, 0, 0, 0, 0, 0, 0, 0, 0, 0, 0, 0, 0, 0, 0, 0, 64, 1, 0, 1, 1], rgs := [] }
def c434 : CFn := ⟨sq ([
oo 2 (.mv (.k (.d (.i .u8 0))))]) (
.seq (.seq (.region true [
om 3 0,
ow 4 (.nilc (.t 3)) 1,
ow 5 (fa 1 4) 3,
ow 6 (.ld false 1 (.t 5)) 7,
om 7 0,
ow 8 (.nilc (.t 7)) 16,
ow 9 (fa 0 8) 48,
ow 10 (.ld false 1 (.t 9)) 112,
ow 11 (.len 1 (.t 10)) 240,
ow 12 (.bin .geq (.t 6) (.t 11)) 511]) (
ct 12 (
sq ([
oo 2 (.mv (.k (.d (.i .u8 0))))]) (
.ret)) (.skip))) (
.seq (.region true [
om 13 0,
ow 14 (.nilc (.t 13)) 1,
ow 15 (fa 0 14) 3,
ow 16 (.ld false 1 (.t 15)) 7,
om 17 0,
ow 18 (.nilc (.t 17)) 16,
ow 19 (fa 1 18) 48,
ow 20 (.ld false 1 (.t 19)) 112,
ow 21 (.ixs (.t 16) (.t 20)) 255,
ow 2 (.mv (.t 21)) 511]) (
.ret))), [.slot 2]⟩
def n434 : Notes := { anns := [], frz := [], rgs := [] }
def c435 : CFn := ⟨sq ([
oo 4 (.mv (ki 0))]) (
sq ([
oo 5 (.mv (ki 1))]) (
.seq (sq ([
om 7 1,
om 6 7]) (
.block 0 (.loop ⟨[0, 5, 6], [], [], [], [], true⟩ (.seq (sq ([
om 8 6,
ob 9 .geq (.t 8) (ki 0)]) (
ct 9 (
.skip) (.exit 0))) (
.seq (.block 1 (.seq (sq ([
om 12 0,
om 13 6,
oo 14 (.ia 2 (.t 12) (.t 13)),
oo 15 (fa 0 14),
ol 16 false 1 15]) (
.block 2 (sq ([
ob 18 .eql (.t 16) (ki 1),
om 17 18]) (
ct 17 (
.region false [
om 19 5,
ob 20 .sub (.t 19) (ki 1),
om 5 20]) (.seq (sq ([
ob 22 .eql (.t 16) (ki 2),
om 21 22]) (
ct 21 (
.skip) (.region false [
ob 23 .eql (.t 16) (ki 3),
om 21 23]))) (
ct 21 (
.region false [
om 24 5,
ob 25 .add (.t 24) (ki 1),
om 5 25]) (.skip))))))) (
sq ([
om 26 5,
ob 27 .eql (.t 26) (ki 0)]) (
ct 27 (
sq ([
om 28 6,
om 4 28]) (
.ret)) (.skip))))) (
.region false [
om 10 6,
ob 11 .sub (.t 10) (ki 1),
om 6 11])))))) (
sq ([
oo 4 (.mv (ki 0))]) (
.ret)))), [.slot 4]⟩
def n435 : Notes := { anns := [⟨[0, 5, 6], [], [], [], [], true⟩], frz := [], rgs := [] }
def c436 : CFn := ⟨sq ([
oo 4 (.mv (.k (.nil 1)))]) (
sq ([
om 7 0,
oo 8 (.len 0 (.t 7)),
oo 9 (.mks 1 1 [(.b false)] false (.t 8) (.t 8)),
om 5 9]) (
.seq (sq ([
oo 6 (.mv (ki 0))]) (
.block 0 (.loop ⟨[0, 1, 5, 6], [], [], [], [], true⟩ (.seq (sq ([
om 10 6,
om 11 0,
oo 12 (.len 0 (.t 11)),
ob 13 .lss (.t 10) (.t 12)]) (
ct 13 (
.skip) (.exit 0))) (
.seq (.block 1 (.region false [
om 16 5,
om 17 6,
om 18 0,
om 19 6,
oo 20 (.ia 1 (.t 18) (.t 19)),
ol 21 false 1 20,
om 22 21,
oh 23 (.mv (.t 1)) 22,
oh 24 (.mv (.t 6)) 22,
oh 25 (.ia 1 (.t 23) (.t 24)) 22,
oh 26 (.ld false 1 (.t 25)) 22,
oo 27 (.pick (.t 22) (kb true) (.t 26)),
oo 28 (.ia 1 (.t 16) (.t 17)),
oz (.st 1 (.t 28) (.t 27)) 0])) (
.region false [
om 14 6,
ob 15 .add (.t 14) (ki 1),
om 6 15])))))) (
sq ([
om 29 5,
om 4 29]) (
.ret)))), [.slot 4]⟩
def n436 : Notes := { anns := [⟨[0, 1, 5, 6], [], [], [], [], true⟩], frz := [], rgs := [] }
def c437 : CFn := ⟨sq ([
oo 4 (.mv (.k (.nil 2)))]) (
sq ([
om 6 0,
om 7 1,
oo 8 (.call 438 [.t 6, .t 7] 68 false),
om 5 8]) (
.seq (.block 0 (.loop ⟨[0, 5], [], [], [], [], false⟩ (.seq (sq ([
om 9 0,
oo 10 (.nilc (.t 9)),
oo 11 (fa 2 10),
ol 12 false 1 11,
oo 13 (.un .not (.t 12))]) (
ct 13 (
.skip) (.exit 0))) (
.block 1 (.seq (sq ([
om 14 0,
oo 15 (.call 434 [.t 14] 4 true)]) (
.block 2 (sq ([
oo 18 (.bin .eql (.t 15) (.k (.d (.i .u8 42)))),
om 17 18]) (
ct 17 (
.region false [
om 19 5,
oo 20 (.build [(.d (.i .i64 0)), (.nil 2)] [(0, 1, (ki 4))]),
oo 21 (.bsa 2 1 [(.i .i64 0), (.l 2 [])] [(0, .t 20)]),
oo 22 (.apa 2 32 (.t 19) (.t 21)),
om 5 22]) (sq ([
oo 24 (.bin .eql (.t 15) (.k (.d (.i .u8 43)))),
om 23 24]) (
ct 23 (
.region false [
om 25 5,
oo 26 (.build [(.d (.i .i64 0)), (.nil 2)] [(0, 1, (ki 5))]),
oo 27 (.bsa 2 1 [(.i .i64 0), (.l 2 [])] [(0, .t 26)]),
oo 28 (.apa 2 32 (.t 25) (.t 27)),
om 5 28]) (sq ([
oo 30 (.bin .eql (.t 15) (.k (.d (.i .u8 63)))),
om 29 30]) (
ct 29 (
.region false [
om 31 5,
oo 32 (.build [(.d (.i .i64 0)), (.nil 2)] [(0, 1, (ki 6))]),
oo 33 (.bsa 2 1 [(.i .i64 0), (.l 2 [])] [(0, .t 32)]),
oo 34 (.apa 2 32 (.t 31) (.t 33)),
om 5 34]) (sq ([
om 16 5,
om 4 16]) (
.ret)))))))))) (
.region false [
om 35 0,
oo 36 (.nilc (.t 35)),
oo 37 (fa 1 36),
ol 38 false 1 37,
ob 39 .add (.t 38) (ki 1),
oo 40 (.nilc (.t 35)),
oo 41 (fa 1 40),
oz (.st 1 (.t 41) (.t 39)) 0])))))) (
sq ([
oo 4 (.mv (.k (.nil 2)))]) (
.ret)))), [.slot 4]⟩
def n437 : Notes := { anns := [⟨[0, 5], [], [], [], [], false⟩], frz := [0, 0, 0, 64, 0, 0, 0, 0, 0, 0, 0, 0, 0, 0, 0, 0, 1, 1, 0, 0, 0, 0, 0, 1, 1, 0, 0, 0, 0, 0, 1, 1], rgs := [] }
def c438 : CFn := ⟨sq ([
oo 4 (.mv (.k (.nil 2)))]) (
sq ([
om 8 0,
oo 9 (.call 434 [.t 8] 4 true),
om 5 9]) (
.seq (sq ([
om 10 5]) (
.block 0 (sq ([
oo 12 (.bin .eql (.t 10) (.k (.d (.i .u8 40)))),
om 11 12]) (
ct 11 (
sq ([
om 13 0,
oo 14 (.nilc (.t 13)),
oo 15 (fa 1 14),
ol 16 false 1 15,
ob 17 .add (.t 16) (ki 1),
oo 18 (.nilc (.t 13)),
oo 19 (fa 1 18),
oz (.st 1 (.t 19) (.t 17)) 0]) (
.seq (sq ([
om 20 1,
ob 21 .geq (.t 20) (ki 12)]) (
ct 21 (
sq ([
om 22 0,
oo 23 (.nilc (.t 22)),
oo 24 (fa 2 23),
oz (.st 1 (.t 24) (kb true)) 0]) (
sq ([
oo 4 (.mv (.k (.nil 2)))]) (
.ret))) (.skip))) (
sq ([
om 25 0,
om 26 1,
ob 27 .add (.t 26) (ki 1),
oo 28 (.call 430 [.t 25, .t 27] 68 false),
om 6 28]) (
.seq (sq ([
om 29 0,
oo 30 (.call 434 [.t 29] 4 true),
oo 31 (.bin .neq (.t 30) (.k (.d (.i .u8 41))))]) (
ct 31 (
sq ([
om 32 0,
oo 33 (.nilc (.t 32)),
oo 34 (fa 2 33),
oz (.st 1 (.t 34) (kb true)) 0]) (
sq ([
oo 4 (.mv (.k (.nil 2)))]) (
.ret))) (.skip))) (
sq ([
om 35 0,
oo 36 (.nilc (.t 35)),
oo 37 (fa 1 36),
ol 38 false 1 37,
ob 39 .add (.t 38) (ki 1),
oo 40 (.nilc (.t 35)),
oo 41 (fa 1 40),
oz (.st 1 (.t 41) (.t 39)) 0]) (
sq ([
om 42 6,
om 4 42]) (
.ret))))))) (sq ([
oo 44 (.bin .eql (.t 10) (.k (.d (.i .u8 91)))),
om 43 44]) (
ct 43 (
sq ([
om 45 0,
oo 46 (.nilc (.t 45)),
oo 47 (fa 1 46),
ol 48 false 1 47,
ob 49 .add (.t 48) (ki 1),
oo 50 (.nilc (.t 45)),
oo 51 (fa 1 50),
oz (.st 1 (.t 51) (.t 49)) 0]) (
sq ([
om 52 0,
oo 53 (.call 439 [.t 52] 68 false),
om 4 53]) (
.ret))) (sq ([
oo 55 (.bin .eql (.t 10) (.k (.d (.i .u8 46)))),
om 54 55]) (
ct 54 (
sq ([
om 56 0,
oo 57 (.nilc (.t 56)),
oo 58 (fa 1 57),
ol 59 false 1 58,
ob 60 .add (.t 59) (ki 1),
oo 61 (.nilc (.t 56)),
oo 62 (fa 1 61),
oz (.st 1 (.t 62) (.t 60)) 0]) (
sq ([
oo 63 (.build [(.d (.i .u8 0)), (.d (.i .u8 0))] [(0, 1, (.k (.d (.i .u8 32)))), (1, 1, (.k (.d (.i .u8 126))))]),
oo 64 (.bsa 2 1 [(.i .u8 0), (.i .u8 0)] [(0, .t 63)]),
oo 65 (.build [(.d (.i .i64 0)), (.nil 2)] [(0, 1, (ki 1)), (1, 1, .t 64)]),
oo 66 (.bsa 2 1 [(.i .i64 0), (.l 2 [])] [(0, .t 65)]),
om 4 66]) (
.ret))) (.skip))))))))) (
sq ([
om 67 0,
oo 68 (.call 440 [.t 67, (.k (.d (.s [40, 41, 91, 93, 124, 42, 43, 63, 46, 92])))] 4 true),
om 7 68]) (
sq ([
om 69 7,
om 70 7,
oo 71 (.build [(.d (.i .u8 0)), (.d (.i .u8 0))] [(0, 1, .t 69), (1, 1, .t 70)]),
oo 72 (.bsa 2 1 [(.i .u8 0), (.i .u8 0)] [(0, .t 71)]),
oo 73 (.build [(.d (.i .i64 0)), (.nil 2)] [(0, 1, (ki 1)), (1, 1, .t 72)]),
oo 74 (.bsa 2 1 [(.i .i64 0), (.l 2 [])] [(0, .t 73)]),
om 4 74]) (
.ret))))), [.slot 4]⟩
def n438 : Notes := { anns := [], frz := [0, 0, 0, 0, 0, 0, 0, 0, 0, 0, 0, 0, 0, 0, 0, 0, 0, 0, 0, 0, 0, 0, 0, 0, 0, 64, 0, 0, 0, 0, 0, 0, 0, 0, 0, 0, 0, 0, 0, 0, 0, 0, 0, 0, 0, 0, 0, 0, 0, 0, 0, 0, 0, 0, 0, 0, 64, 0, 0, 0, 0, 0, 0, 0, 0, 0, 0, 0, 0, 1, 0, 1, 0, 0, 0, 0, 0, 0, 0, 1, 0, 1], rgs := [] }
def c439 : CFn := ⟨sq ([
oo 2 (.mv (.k (.nil 2)))]) (
sq ([
oo 3 (.mv (.k (.nil 2)))]) (
.seq (.block 0 (.loop ⟨[0, 3], [], [], [], [], false⟩ (.seq (sq ([
om 5 0,
oo 6 (.nilc (.t 5)),
oo 7 (fa 2 6),
ol 8 false 1 7,
oo 9 (.un .not (.t 8)),
om 10 9,
og 11 (.mv (.t 3)) 10,
og 12 (.len 0 (.t 11)) 10,
og 13 (.bin .eql (.t 12) (ki 0)) 10,
og 14 (.mv (.t 13)) 10,
oh 15 (.mv (.t 0)) 14,
oh 16 (.call 434 [.t 15] 4 true) 14,
oh 17 (.bin .neq (.t 16) (.k (.d (.i .u8 93)))) 14,
og 18 (.pick (.t 14) (kb true) (.t 17)) 10,
oo 19 (.pick (.t 10) (.t 18) (kb false))]) (
ct 19 (
.skip) (.exit 0))) (
.block 1 (sq ([
oo 20 (.build [(.d (.i .u8 0)), (.d (.i .u8 0))] []),
oo 4 (.zero (.agg [(.d (.i .u8 0)), (.d (.i .u8 0))])),
oz (.st 2 (.t 4) (.t 20)) 0]) (
sq ([
om 21 0,
oo 22 (.call 440 [.t 21, (.k (.d (.s [93, 45, 92])))] 4 true),
oo 23 (fa 0 4),
oz (.st 1 (.t 23) (.t 22)) 0]) (
sq ([
oo 24 (fa 0 4),
ol 25 false 1 24,
oo 26 (fa 1 4),
oz (.st 1 (.t 26) (.t 25)) 0]) (
.seq (sq ([
om 27 0,
oo 28 (.nilc (.t 27)),
oo 29 (fa 2 28),
ol 30 false 1 29,
oo 31 (.un .not (.t 30)),
om 32 31,
og 33 (.mv (.t 0)) 32,
og 34 (.call 434 [.t 33] 4 true) 32,
og 35 (.bin .eql (.t 34) (.k (.d (.i .u8 45)))) 32,
oo 36 (.pick (.t 32) (.t 35) (kb false))]) (
ct 36 (
sq ([
om 37 0,
oo 38 (.nilc (.t 37)),
oo 39 (fa 1 38),
ol 40 false 1 39,
ob 41 .add (.t 40) (ki 1),
oo 42 (.nilc (.t 37)),
oo 43 (fa 1 42),
oz (.st 1 (.t 43) (.t 41)) 0]) (
.region false [
om 44 0,
oo 45 (.call 440 [.t 44, (.k (.d (.s [93, 45, 92])))] 4 true),
oo 46 (fa 1 4),
oz (.st 1 (.t 46) (.t 45)) 0])) (.skip))) (
.seq (sq ([
oo 47 (fa 1 4),
ol 48 false 1 47,
oo 49 (fa 0 4),
ol 50 false 1 49,
ob 51 .lss (.t 48) (.t 50)]) (
ct 51 (
.region false [
om 52 0,
oo 53 (.nilc (.t 52)),
oo 54 (fa 2 53),
oz (.st 1 (.t 54) (kb true)) 0]) (.skip))) (
.region false [
om 55 3,
ol 56 true 2 4,
oo 57 (.bsa 2 1 [(.i .u8 0), (.i .u8 0)] [(0, .t 56)]),
oo 58 (.apa 2 2 (.t 55) (.t 57)),
om 3 58])))))))))) (
sq ([
om 59 0,
oo 60 (.nilc (.t 59)),
oo 61 (fa 1 60),
ol 62 false 1 61,
ob 63 .add (.t 62) (ki 1),
oo 64 (.nilc (.t 59)),
oo 65 (fa 1 64),
oz (.st 1 (.t 65) (.t 63)) 0]) (
sq ([
om 66 3,
oo 67 (.build [(.d (.i .i64 0)), (.nil 2)] [(0, 1, (ki 1)), (1, 1, .t 66)]),
oo 68 (.bsa 2 1 [(.i .i64 0), (.l 2 [])] [(0, .t 67)]),
om 2 68]) (
.ret))))), [.slot 2]⟩
def n439 : Notes := { anns := [⟨[0, 3], [], [], [], [], false⟩], frz := [0, 0, 0, 0, 0, 0, 0, 0, 0, 0, 0, 0, 0, 0, 0, 0, 0, 0, 0, 0, 0, 0, 0, 0, 0, 0, 0, 0, 0, 0, 0, 0, 0, 0, 0, 0, 0, 0, 0, 0, 0, 0, 0, 0, 0, 0, 0, 0, 0, 0, 0, 0, 0, 0, 0, 0, 0, 0, 0, 0, 0, 1, 1, 0, 0, 0, 0, 0, 0, 0, 0, 0, 0, 0, 1], rgs := [] }
def c440 : CFn := ⟨sq ([
oo 4 (.mv (.k (.d (.i .u8 0))))]) (
sq ([
om 6 0,
oo 7 (.call 434 [.t 6] 4 true),
om 5 7]) (
.seq (sq ([
om 8 5,
oo 9 (.bin .eql (.t 8) (.k (.d (.i .u8 92))))]) (
ct 9 (
sq ([
om 10 0,
oo 11 (.nilc (.t 10)),
oo 12 (fa 1 11),
ol 13 false 1 12,
ob 14 .add (.t 13) (ki 1),
oo 15 (.nilc (.t 10)),
oo 16 (fa 1 15),
oz (.st 1 (.t 16) (.t 14)) 0]) (
sq ([
om 17 0,
oo 18 (.call 434 [.t 17] 4 true),
om 5 18]) (
.seq (sq ([
om 19 5,
om 20 1,
oo 21 (.call 441 [.t 19, .t 20] 0 true),
oo 22 (.un .not (.t 21))]) (
ct 22 (
.region false [
om 23 0,
oo 24 (.nilc (.t 23)),
oo 25 (fa 2 24),
oz (.st 1 (.t 25) (kb true)) 0]) (.skip))) (
sq ([
om 26 0,
oo 27 (.nilc (.t 26)),
oo 28 (fa 1 27),
ol 29 false 1 28,
ob 30 .add (.t 29) (ki 1),
oo 31 (.nilc (.t 26)),
oo 32 (fa 1 31),
oz (.st 1 (.t 32) (.t 30)) 0]) (
sq ([
om 33 5,
om 4 33]) (
.ret)))))) (.skip))) (
.seq (sq ([
om 34 5,
oo 35 (.bin .lss (.t 34) (.k (.d (.i .u8 32)))),
om 36 35,
oh 37 (.mv (.t 5)) 36,
oh 38 (.bin .gtr (.t 37) (.k (.d (.i .u8 126)))) 36,
oo 39 (.pick (.t 36) (kb true) (.t 38)),
om 40 39,
oh 41 (.mv (.t 5)) 40,
oh 42 (.mv (.t 1)) 40,
oh 43 (.call 441 [.t 41, .t 42] 0 true) 40,
oo 44 (.pick (.t 40) (kb true) (.t 43))]) (
ct 44 (
.region false [
om 45 0,
oo 46 (.nilc (.t 45)),
oo 47 (fa 2 46),
oz (.st 1 (.t 47) (kb true)) 0]) (.skip))) (
sq ([
om 48 0,
oo 49 (.nilc (.t 48)),
oo 50 (fa 1 49),
ol 51 false 1 50,
ob 52 .add (.t 51) (ki 1),
oo 53 (.nilc (.t 48)),
oo 54 (fa 1 53),
oz (.st 1 (.t 54) (.t 52)) 0]) (
sq ([
om 55 5,
om 4 55]) (
.ret)))))), [.slot 4]⟩
def n440 : Notes := { anns := [], frz := [], rgs := [] }
def c441 : CFn := ⟨sq ([
oo 4 (.mv (kb false))]) (
.seq (sq ([
oo 5 (.mv (ki 0))]) (
.block 0 (.loop ⟨[0, 1, 5], [], [], [], [], true⟩ (.seq (sq ([
om 6 5,
om 7 1,
oo 8 (.len 1 (.t 7)),
ob 9 .lss (.t 6) (.t 8)]) (
ct 9 (
.skip) (.exit 0))) (
.seq (.block 1 (sq ([
om 12 1,
om 13 5,
oo 14 (.ixs (.t 12) (.t 13)),
om 15 0,
ob 16 .eql (.t 14) (.t 15)]) (
ct 16 (
sq ([
oo 4 (.mv (kb true))]) (
.ret)) (.skip)))) (
.region false [
om 10 5,
ob 11 .add (.t 10) (ki 1),
om 5 11])))))) (
sq ([
oo 4 (.mv (kb false))]) (
.ret))), [.slot 4]⟩
def n441 : Notes := { anns := [⟨[0, 1, 5], [], [], [], [], true⟩], frz := [], rgs := [] }
def a10373 : CCode := .region false [
oo 5 (.zero (.agg [(.d (.i .i64 0)), (.d (.i .i64 0)), (.d (.i .i64 0)), (.d (.s [])), (.nil 1)])),
oz (.st 5 (.t 5) (.t 13)) 0]
def b10373 : CCode := .block 1 (.seq (.region true [
ol 14 true 3 2,
oo 15 (fa 2 2),
ow 16 (.ld false 1 (.t 15)) 2,
oo 17 (fa 1 5),
ow 18 (.ld false 1 (.t 17)) 8,
ow 19 (.ia 3 (.t 16) (.t 18)) 30,
ow 20 (fa 0 19) 62,
ow 21 (.ld false 1 (.t 20)) 126,
ow 22 (.call 181 [.t 14, .t 21] 0 true) 255,
oo 23 (.mv (ki 0))]) (
.block 2 (.loop ⟨[4, 5, 22, 23], [], [(4, 0)], [], [], true⟩ (sq ([
ob 24 .lss (.t 23) (.t 22)]) (
.seq (ct 24 (
.skip) (.exit 2)) (
.seq (.block 3 (sq ([
om 25 23,
om 6 25]) (
.region false [
ol 26 false 1 4,
oo 27 (fa 0 5),
ol 28 false 1 27,
om 29 6,
oo 30 (.build [(.d (.i .i64 0)), (.d (.i .i64 0))] [(0, 1, .t 28), (1, 1, .t 29)]),
oo 31 (.bsl 2 1 [(.i .i64 0), (.i .i64 0)] [(0, .t 30)]),
oo 32 (.app 2 16 (.t 26) (.t 31)),
oz (.st 1 (.t 4) (.t 32)) 0]))) (
.region false [
ob 33 .add (.t 23) (ki 1),
om 23 33])))))))
def n10373 : Notes := { anns := [⟨[4, 5, 22, 23], [], [(4, 0)], [], [], true⟩], frz := [], rgs := [] }
def tT : FTree := (.node 229 (.node 189 (.node 143 (.node 127 (.node 114 (.node 111 (.node 108 (.leaf 108 (.code c108)) (.leaf 111 (.code c111))) (.node 112 (.leaf 112 (.code c112)) (.leaf 114 (.code c114)))) (.node 125 (.node 123 (.leaf 123 (.code c123)) (.leaf 125 (.code c125))) (.node 126 (.leaf 126 (.code c126)) (.leaf 127 (.code c127))))) (.node 137 (.node 129 (.node 128 (.leaf 128 (.code c128)) (.leaf 129 (.code c129))) (.node 130 (.leaf 130 (.code c130)) (.leaf 137 (.code c137)))) (.node 140 (.node 139 (.leaf 139 (.code c139)) (.leaf 140 (.code c140))) (.node 141 (.leaf 141 (.code c141)) (.node 142 (.leaf 142 (.code c142)) (.leaf 143 (.code c143))))))) (.node 169 (.node 152 (.node 145 (.node 144 (.leaf 144 (.code c144)) (.leaf 145 (.code c145))) (.node 151 (.leaf 151 (.code c151)) (.leaf 152 (.code c152)))) (.node 154 (.node 153 (.leaf 153 (.code c153)) (.leaf 154 (.code c154))) (.node 155 (.leaf 155 (.code c155)) (.leaf 169 (.code c169))))) (.node 184 (.node 181 (.node 170 (.leaf 170 (.code c170)) (.leaf 181 (.code c181))) (.node 182 (.leaf 182 (.code c182)) (.leaf 184 (.code c184)))) (.node 186 (.node 185 (.leaf 185 (.code c185)) (.leaf 186 (.code c186))) (.node 187 (.leaf 187 (.code c187)) (.node 188 (.leaf 188 (.code c188)) (.leaf 189 (.code c189)))))))) (.node 211 (.node 202 (.node 198 (.node 192 (.node 190 (.leaf 190 (.code c190)) (.leaf 192 (.code c192))) (.node 197 (.leaf 197 (.code c197)) (.leaf 198 (.code c198)))) (.node 200 (.node 199 (.leaf 199 (.code c199)) (.leaf 200 (.code c200))) (.node 201 (.leaf 201 (.code c201)) (.leaf 202 (.code c202))))) (.node 206 (.node 204 (.node 203 (.leaf 203 (.code c203)) (.leaf 204 (.code c204))) (.node 205 (.leaf 205 (.code c205)) (.leaf 206 (.code c206)))) (.node 208 (.node 207 (.leaf 207 (.code c207)) (.leaf 208 (.code c208))) (.node 209 (.leaf 209 (.code c209)) (.node 210 (.leaf 210 (.code c210)) (.leaf 211 (.code c211))))))) (.node 220 (.node 216 (.node 213 (.node 212 (.leaf 212 (.code c212)) (.leaf 213 (.code c213))) (.node 214 (.leaf 214 (.code c214)) (.leaf 216 (.code c216)))) (.node 218 (.node 217 (.leaf 217 (.code c217)) (.leaf 218 (.code c218))) (.node 219 (.leaf 219 (.code c219)) (.leaf 220 (.code c220))))) (.node 224 (.node 222 (.node 221 (.leaf 221 (.code c221)) (.leaf 222 (.code c222))) (.node 223 (.leaf 223 (.code c223)) (.leaf 224 (.code c224)))) (.node 226 (.node 225 (.leaf 225 (.code c225)) (.leaf 226 (.code c226))) (.node 227 (.leaf 227 (.code c227)) (.node 228 (.leaf 228 (.code c228)) (.leaf 229 (.code c229))))))))) (.node 399 (.node 373 (.node 237 (.node 233 (.node 231 (.node 230 (.leaf 230 (.code c230)) (.leaf 231 (.code c231))) (.node 232 (.leaf 232 (.code c232)) (.leaf 233 (.code c233)))) (.node 235 (.node 234 (.leaf 234 (.code c234)) (.leaf 235 (.code c235))) (.node 236 (.leaf 236 (.code c236)) (.leaf 237 (.code c237))))) (.node 241 (.node 239 (.node 238 (.leaf 238 (.code c238)) (.leaf 239 (.code c239))) (.node 240 (.leaf 240 (.code c240)) (.leaf 241 (.code c241)))) (.node 368 (.node 366 (.leaf 366 (.code c366)) (.leaf 368 (.code c368))) (.node 370 (.leaf 370 (.code c370)) (.node 372 (.leaf 372 (.code c372)) (.leaf 373 (.code c373))))))) (.node 387 (.node 380 (.node 376 (.node 374 (.leaf 374 (.code c374)) (.leaf 376 (.code c376))) (.node 379 (.leaf 379 (.code c379)) (.leaf 380 (.code c380)))) (.node 383 (.node 381 (.leaf 381 (.code c381)) (.leaf 383 (.code c383))) (.node 384 (.leaf 384 (.code c384)) (.leaf 387 (.code c387))))) (.node 393 (.node 389 (.node 388 (.leaf 388 (.code c388)) (.leaf 389 (.code c389))) (.node 391 (.leaf 391 (.code c391)) (.leaf 393 (.code c393)))) (.node 395 (.node 394 (.leaf 394 (.code c394)) (.leaf 395 (.code c395))) (.node 396 (.leaf 396 (.code c396)) (.node 398 (.leaf 398 (.code c398)) (.leaf 399 (.code c399)))))))) (.node 425 (.node 410 (.node 405 (.node 401 (.node 400 (.leaf 400 (.code c400)) (.leaf 401 (.code c401))) (.node 404 (.leaf 404 (.code c404)) (.leaf 405 (.code c405)))) (.node 407 (.node 406 (.leaf 406 (.code c406)) (.leaf 407 (.code c407))) (.node 408 (.leaf 408 (.code c408)) (.leaf 410 (.code c410))))) (.node 416 (.node 413 (.node 412 (.leaf 412 (.code c412)) (.leaf 413 (.code c413))) (.node 414 (.leaf 414 (.code c414)) (.leaf 416 (.code c416)))) (.node 422 (.node 417 (.leaf 417 (.code c417)) (.leaf 422 (.code c422))) (.node 423 (.leaf 423 (.code c423)) (.node 424 (.leaf 424 (.code c424)) (.leaf 425 (.code c425))))))) (.node 433 (.node 429 (.node 427 (.node 426 (.leaf 426 (.code c426)) (.leaf 427 (.code c427))) (.node 428 (.leaf 428 (.code c428)) (.leaf 429 (.code c429)))) (.node 431 (.node 430 (.leaf 430 (.code c430)) (.leaf 431 (.code c431))) (.node 432 (.leaf 432 (.code c432)) (.leaf 433 (.code c433))))) (.node 437 (.node 435 (.node 434 (.leaf 434 (.code c434)) (.leaf 435 (.code c435))) (.node 436 (.leaf 436 (.code c436)) (.leaf 437 (.code c437)))) (.node 439 (.node 438 (.leaf 438 (.code c438)) (.leaf 439 (.code c439))) (.node 440 (.leaf 440 (.code c440)) (.node 441 (.leaf 441 (.code c441)) (.leaf 10373 (.round [13] [2, 4] a10373 b10373))))))))))
noncomputable def tF : Nat → Option Fn := FTree.get tT
end Ab
