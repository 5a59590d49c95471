/-
 CircForms: compiled functions: printed by a program of the workbench; the kernel checks each against the model's code.
-/
import Derived.Test.YtdbjkmciidcanaaPack5
import Derived.Test.YtdbjkmciidcanaaPack6
set_option linter.unusedSimpArgs false
set_option linter.unusedVariables false
set_option linter.unusedSectionVars false
set_option linter.unnecessarySimpa false
namespace Ab
def c111 : CFn := ⟨sq ([
oo 1 (.box (.t 0)),
oo 2 (.mv (kb false))]) (
sq ([
ol 3 true 4 1,
oo 4 (.call 112 [.t 3] 0 true),
ob 5 .leq (.t 4) (ki 60),
om 6 5,
og 7 (.ld true 4 (.t 1)) 6,
og 8 (.call 125 [.t 7] 0 true) 6,
oo 9 (.pick (.t 6) (.t 8) (kb false)),
om 2 9]) (
.ret)), [.slot 2]⟩
def n111 : Notes := { anns := [], frz := [], rgs := [] }
def c112 : CFn := ⟨sq ([
oo 1 (.box (.t 0)),
oo 2 (.mv (ki 0))]) (
sq ([
oo 6 (fa 2 1),
ol 7 false 1 6,
oo 8 (.len 1 (.t 7)),
ob 9 .quo (.t 8) (ki 16),
ob 10 .add (ki 1) (.t 9),
om 3 10]) (
.seq (sq ([
oo 11 (fa 3 1),
ol 12 false 1 11,
oo 13 (.len 0 (.t 12)),
oo 14 (.mv (ki 0))]) (
.block 0 (.loop ⟨[3, 12, 13, 14], [], [], [], [], true⟩ (sq ([
ob 15 .lss (.t 14) (.t 13)]) (
.seq (ct 15 (
.skip) (.exit 0)) (
.seq (.block 1 (sq ([
oo 16 (.ia 4 (.t 12) (.t 14)),
ol 17 true 4 16,
oo 5 (.zero (.agg zV)),
oz (.st 4 (.t 5) (.t 17)) 0]) (
.region false [
om 18 3,
ol 19 true 4 5,
oo 20 (.call 112 [.t 19] 0 true),
ob 21 .add (.t 18) (.t 20),
om 3 21]))) (
.region false [
ob 22 .add (.t 14) (ki 1),
om 14 22]))))))) (
sq ([
om 23 3,
om 2 23]) (
.ret)))), [.slot 2]⟩
def n112 : Notes := { anns := [⟨[3, 12, 13, 14], [], [], [], [], true⟩], frz := [], rgs := [] }
def c114 : CFn := ⟨sq ([
oo 2 (.box (.t 0)),
oo 3 (.box (.t 1)),
oo 4 (.mv (ki 0))]) (
.seq (.region true [
oo 5 (fa 0 2),
ow 6 (.ld false 1 (.t 5)) 1,
oo 7 (fa 0 3),
ow 8 (.ld false 1 (.t 7)) 4,
ow 9 (.call 127 [.t 6, .t 8] 0 true) 15,
oo 10 (fa 1 2),
ow 11 (.ld false 1 (.t 10)) 32,
oo 12 (fa 1 3),
ow 13 (.ld false 1 (.t 12)) 128,
ow 14 (.call 128 [.t 11, .t 13] 0 true) 511,
oo 15 (fa 2 2),
ow 16 (.ld false 1 (.t 15)) 1024,
oo 17 (fa 2 3),
ow 18 (.ld false 1 (.t 17)) 4096,
ow 19 (.call 129 [.t 16, .t 18] 0 true) 16383,
oo 20 (fa 3 2),
ow 21 (.ld false 1 (.t 20)) 32768,
oo 22 (fa 3 3),
ow 23 (.ld false 1 (.t 22)) 131072,
ow 24 (.call 130 [.t 21, .t 23, (.k (.d (.f 114 [] [])))] 4 true) 524287,
ow 25 (.bsl 1 4 [(.i .i64 0)] [(0, .t 9), (1, .t 14), (2, .t 19), (3, .t 24)]) 1048575,
ow 26 (.call 126 [.t 25] 0 true) 2097151,
ow 4 (.mv (.t 26)) 4194303]) (
.ret)), [.slot 4]⟩
def n114 : Notes := { anns := [], frz := [], rgs := [] }
def c125 : CFn := ⟨sq ([
oo 1 (.box (.t 0)),
oo 2 (.mv (kb false))]) (
.seq (sq ([
oo 3 (fa 0 1),
ol 4 false 1 3,
ob 5 .lss (.t 4) (ki 1),
om 6 5,
oh 7 (fa 0 1) 6,
oh 8 (.ld false 1 (.t 7)) 6,
oh 9 (.bin .gtr (.t 8) (ki 7)) 6,
oo 10 (.pick (.t 6) (kb true) (.t 9)),
om 11 10,
oh 12 (.ld true 4 (.t 1)) 11,
oh 13 (.call 139 [.t 12] 0 true) 11,
oh 14 (.un .not (.t 13)) 11,
oo 15 (.pick (.t 11) (kb true) (.t 14)),
om 16 15,
oh 17 (fa 0 1) 16,
oh 18 (.ld false 1 (.t 17)) 16,
oh 19 (.bin .neq (.t 18) (ki 3)) 16,
oh 20 (.mv (.t 19)) 16,
og 21 (fa 2 1) 20,
og 22 (.ld false 1 (.t 21)) 20,
og 23 (.bin .neq (.t 22) (.k (.d (.s [])))) 20,
oh 24 (.pick (.t 20) (.t 23) (kb false)) 16,
oo 25 (.pick (.t 16) (kb true) (.t 24)),
om 26 25,
oh 27 (.ld true 4 (.t 1)) 26,
oh 28 (.call 140 [.t 27] 0 true) 26,
oh 29 (.un .not (.t 28)) 26,
oo 30 (.pick (.t 26) (kb true) (.t 29))]) (
ct 30 (
sq ([
oo 2 (.mv (kb false))]) (
.ret)) (.skip))) (
sq ([
oo 31 (fa 3 1),
ol 32 false 1 31,
oo 33 (.call 141 [.t 32, (.k (.d (.f 142 [] [])))] 4 true),
oo 34 (.un .not (.t 33)),
om 2 34]) (
.ret))), [.slot 2]⟩
def n125 : Notes := { anns := [], frz := [], rgs := [] }
def c126 : CFn := ⟨sq ([
oo 2 (.mv (ki 0))]) (
sq ([
oo 3 (.mv (ki 0))]) (
.seq (sq ([
om 6 0,
oo 7 (.len 0 (.t 6)),
oo 8 (.mv (ki 0))]) (
.block 0 (.loop ⟨[3, 6, 7, 8], [], [], [], [], true⟩ (sq ([
ob 9 .lss (.t 8) (.t 7)]) (
.seq (ct 9 (
.skip) (.exit 0)) (
.seq (.block 1 (sq ([
oo 10 (.ia 1 (.t 6) (.t 8)),
ol 11 false 1 10,
om 5 11]) (
sq ([
om 12 5,
om 13 3,
ob 14 .neq (.t 12) (.t 13)]) (
ct 14 (
sq ([
om 15 5,
om 2 15]) (
.ret)) (.skip))))) (
.region false [
ob 16 .add (.t 8) (ki 1),
om 8 16]))))))) (
sq ([
om 17 3,
om 2 17]) (
.ret)))), [.slot 2]⟩
def n126 : Notes := { anns := [⟨[3, 6, 7, 8], [], [], [], [], true⟩], frz := [], rgs := [] }
def c127 : CFn := ⟨sq ([
oo 4 (.mv (ki 0))]) (
sq ([
om 7 0,
oo 8 (.call 143 [.t 7] 0 true),
om 5 8]) (
sq ([
om 9 1,
oo 10 (.call 143 [.t 9] 0 true),
om 6 10]) (
.seq (sq ([
om 11 5]) (
ct 11 (
.seq (sq ([
om 12 6]) (
ct 12 (
sq ([
oo 4 (.mv (ki 0))]) (
.ret)) (.skip))) (
sq ([
oo 4 (.mv (.k (.d (.i .i64 (-1)))))]) (
.ret))) (.skip))) (
.seq (sq ([
om 13 6]) (
ct 13 (
sq ([
oo 4 (.mv (ki 1))]) (
.ret)) (.skip))) (
.seq (sq ([
om 14 0,
om 15 1,
ob 16 .lss (.t 14) (.t 15)]) (
ct 16 (
sq ([
oo 4 (.mv (.k (.d (.i .i64 (-1)))))]) (
.ret)) (.skip))) (
.seq (sq ([
om 17 0,
om 18 1,
ob 19 .gtr (.t 17) (.t 18)]) (
ct 19 (
sq ([
oo 4 (.mv (ki 1))]) (
.ret)) (.skip))) (
sq ([
oo 4 (.mv (ki 0))]) (
.ret)))))))), [.slot 4]⟩
def n127 : Notes := { anns := [], frz := [], rgs := [] }
def c128 : CFn := ⟨sq ([
oo 4 (.mv (ki 0))]) (
sq ([
om 7 0,
oo 8 (.call 144 [.t 7] 0 true),
om 5 8]) (
sq ([
om 9 1,
oo 10 (.call 144 [.t 9] 0 true),
om 6 10]) (
.seq (sq ([
om 11 5]) (
ct 11 (
.seq (sq ([
om 12 6]) (
ct 12 (
sq ([
oo 4 (.mv (ki 0))]) (
.ret)) (.skip))) (
sq ([
oo 4 (.mv (.k (.d (.i .i64 (-1)))))]) (
.ret))) (.skip))) (
.seq (sq ([
om 13 6]) (
ct 13 (
sq ([
oo 4 (.mv (ki 1))]) (
.ret)) (.skip))) (
.seq (sq ([
om 14 0,
om 15 1,
ob 16 .lss (.t 14) (.t 15)]) (
ct 16 (
sq ([
oo 4 (.mv (.k (.d (.i .i64 (-1)))))]) (
.ret)) (.skip))) (
.seq (sq ([
om 17 0,
om 18 1,
ob 19 .gtr (.t 17) (.t 18)]) (
ct 19 (
sq ([
oo 4 (.mv (ki 1))]) (
.ret)) (.skip))) (
sq ([
oo 4 (.mv (ki 0))]) (
.ret)))))))), [.slot 4]⟩
def n128 : Notes := { anns := [], frz := [], rgs := [] }
def c129 : CFn := ⟨sq ([
oo 4 (.mv (ki 0))]) (
sq ([
om 7 0,
oo 8 (.call 145 [.t 7] 0 true),
om 5 8]) (
sq ([
om 9 1,
oo 10 (.call 145 [.t 9] 0 true),
om 6 10]) (
.seq (sq ([
om 11 5]) (
ct 11 (
.seq (sq ([
om 12 6]) (
ct 12 (
sq ([
oo 4 (.mv (ki 0))]) (
.ret)) (.skip))) (
sq ([
oo 4 (.mv (.k (.d (.i .i64 (-1)))))]) (
.ret))) (.skip))) (
.seq (sq ([
om 13 6]) (
ct 13 (
sq ([
oo 4 (.mv (ki 1))]) (
.ret)) (.skip))) (
.seq (sq ([
om 14 0,
om 15 1,
ob 16 .lss (.t 14) (.t 15)]) (
ct 16 (
sq ([
oo 4 (.mv (.k (.d (.i .i64 (-1)))))]) (
.ret)) (.skip))) (
.seq (sq ([
om 17 0,
om 18 1,
ob 19 .gtr (.t 17) (.t 18)]) (
ct 19 (
sq ([
oo 4 (.mv (ki 1))]) (
.ret)) (.skip))) (
sq ([
oo 4 (.mv (ki 0))]) (
.ret)))))))), [.slot 4]⟩
def n129 : Notes := { anns := [], frz := [], rgs := [] }
def c130 : CFn := ⟨sq ([
oo 6 (.mv (ki 0))]) (
.seq (sq ([
om 11 0,
oo 12 (.len 0 (.t 11)),
oo 13 (.mv (ki 0))]) (
.block 0 (.loop ⟨[0, 1, 2, 11, 12, 13], [], [], [], [], true⟩ (sq ([
ob 14 .lss (.t 13) (.t 12)]) (
.seq (ct 14 (
.skip) (.exit 0)) (
.seq (.block 1 (sq ([
om 15 13,
oo 16 (.ia 4 (.t 11) (.t 13)),
ol 17 true 4 16,
oo 8 (.zero (.agg zV)),
om 7 15,
oz (.st 4 (.t 8) (.t 17)) 0]) (
.seq (sq ([
om 18 7,
om 19 1,
oo 20 (.len 0 (.t 19)),
ob 21 .geq (.t 18) (.t 20)]) (
ct 21 (
sq ([
oo 6 (.mv (ki 1))]) (
.ret)) (.skip))) (
sq ([
om 22 1,
om 23 7,
oo 24 (.ia 4 (.t 22) (.t 23)),
ol 25 true 4 24,
oo 9 (.zero (.agg zV)),
oz (.st 4 (.t 9) (.t 25)) 0]) (
sq ([
om 26 2,
ol 27 true 4 8,
ol 28 true 4 9,
oo 29 (.callv (.t 26) [.t 27, .t 28] 4 true),
om 10 29]) (
sq ([
om 30 10,
ob 31 .neq (.t 30) (ki 0)]) (
ct 31 (
sq ([
om 32 10,
om 6 32]) (
.ret)) (.skip)))))))) (
.region false [
ob 33 .add (.t 13) (ki 1),
om 13 33]))))))) (
.seq (sq ([
om 34 0,
oo 35 (.len 0 (.t 34)),
om 36 1,
oo 37 (.len 0 (.t 36)),
ob 38 .lss (.t 35) (.t 37)]) (
ct 38 (
sq ([
oo 6 (.mv (.k (.d (.i .i64 (-1)))))]) (
.ret)) (.skip))) (
sq ([
oo 6 (.mv (ki 0))]) (
.ret)))), [.slot 6]⟩
def n130 : Notes := { anns := [⟨[0, 1, 2, 11, 12, 13], [], [], [], [], true⟩], frz := [], rgs := [] }
def c137 : CFn := ⟨sq ([
oo 1 (.box (.t 0)),
oo 2 (.mv (.k (.d (.s []))))]) (
.seq (sq ([
oo 3 (fa 3 1),
ol 4 false 1 3,
oo 5 (.len 0 (.t 4)),
ob 6 .eql (.t 5) (ki 0)]) (
ct 6 (
sq ([
oo 2 (.mv (.k (.d (.s []))))]) (
.ret)) (.skip))) (
sq ([
oo 7 (fa 3 1),
ol 8 false 1 7,
oo 9 (.ia 4 (.t 8) (ki 0)),
oo 10 (fa 2 9),
ol 11 false 1 10,
om 2 11]) (
.ret))), [.slot 2]⟩
def n137 : Notes := { anns := [], frz := [], rgs := [] }
def c139 : CFn := ⟨sq ([
oo 1 (.box (.t 0)),
oo 2 (.mv (kb false))]) (
.seq (sq ([
oo 3 (fa 0 1),
ol 4 false 1 3]) (
.block 0 (sq ([
ob 6 .eql (.t 4) (ki 1),
om 5 6]) (
ct 5 (
sq ([
oo 2 (.mv (kb true))]) (
.ret)) (sq ([
ob 8 .eql (.t 4) (ki 2),
om 7 8]) (
ct 7 (
sq ([
oo 9 (fa 1 1),
ol 10 false 1 9,
ob 11 .eql (.t 10) (ki 0),
om 12 11,
oh 13 (fa 1 1) 12,
oh 14 (.ld false 1 (.t 13)) 12,
oh 15 (.bin .eql (.t 14) (ki 1)) 12,
oo 16 (.pick (.t 12) (kb true) (.t 15)),
om 2 16]) (
.ret)) (sq ([
ob 18 .eql (.t 4) (ki 7),
om 17 18]) (
ct 17 (
sq ([
oo 19 (fa 1 1),
ol 20 false 1 19,
ob 21 .geq (.t 20) (ki 1),
om 22 21,
og 23 (fa 1 1) 22,
og 24 (.ld false 1 (.t 23)) 22,
og 25 (.bin .leq (.t 24) (ki 13)) 22,
oo 26 (.pick (.t 22) (.t 25) (kb false)),
om 2 26]) (
.ret)) (.skip))))))))) (
sq ([
oo 27 (fa 1 1),
ol 28 false 1 27,
ob 29 .eql (.t 28) (ki 0),
om 2 29]) (
.ret))), [.slot 2]⟩
def n139 : Notes := { anns := [], frz := [], rgs := [] }
def c140 : CFn := ⟨sq ([
oo 1 (.box (.t 0)),
oo 2 (.mv (kb false))]) (
.seq (sq ([
oo 3 (fa 0 1),
ol 4 false 1 3]) (
.block 0 (sq ([
ob 6 .eql (.t 4) (ki 4),
om 5 6]) (
ct 5 (
sq ([
oo 2 (.mv (kb true))]) (
.ret)) (sq ([
ob 8 .eql (.t 4) (ki 5),
om 7 8]) (
ct 7 (
sq ([
oo 9 (fa 3 1),
ol 10 false 1 9,
oo 11 (.call 151 [.t 10, (.k (.d (.f 114 [] [])))] 4 true),
om 2 11]) (
.ret)) (sq ([
ob 13 .eql (.t 4) (ki 6),
om 12 13]) (
ct 12 (
sq ([
oo 14 (fa 3 1),
ol 15 false 1 14,
oo 16 (.call 141 [.t 15, (.k (.d (.f 152 [] [])))] 4 true),
oo 17 (.un .not (.t 16)),
om 18 17,
og 19 (fa 3 1) 18,
og 20 (.ld false 1 (.t 19)) 18,
og 21 (.call 151 [.t 20, (.k (.d (.f 154 [] [])))] 4 true) 18,
oo 22 (.pick (.t 18) (.t 21) (kb false)),
om 2 22]) (
.ret)) (.skip))))))))) (
sq ([
oo 23 (fa 3 1),
ol 24 false 1 23,
oo 25 (.len 0 (.t 24)),
ob 26 .eql (.t 25) (ki 0),
om 2 26]) (
.ret))), [.slot 2]⟩
def n140 : Notes := { anns := [], frz := [], rgs := [] }
def c141 : CFn := ⟨sq ([
oo 4 (.mv (kb false))]) (
sq ([
om 5 0,
om 6 1,
oo 7 (.call 155 [.t 5, .t 6] 4 true),
ob 8 .geq (.t 7) (ki 0),
om 4 8]) (
.ret)), [.slot 4]⟩
def n141 : Notes := { anns := [], frz := [], rgs := [] }
def c142 : CFn := ⟨sq ([
oo 1 (.box (.t 0)),
oo 2 (.mv (kb false))]) (
sq ([
oo 3 (fa 0 1),
ol 4 false 1 3,
ob 5 .eql (.t 4) (ki 7),
om 6 5,
oh 7 (.ld true 4 (.t 1)) 6,
oh 8 (.call 125 [.t 7] 0 true) 6,
oh 9 (.un .not (.t 8)) 6,
oo 10 (.pick (.t 6) (kb true) (.t 9)),
om 2 10]) (
.ret)), [.slot 2]⟩
def n142 : Notes := { anns := [], frz := [], rgs := [] }
def c143 : CFn := ⟨sq ([
oo 2 (.mv (kb false))]) (
sq ([
om 3 0,
om 4 0,
ob 5 .neq (.t 3) (.t 4),
om 2 5]) (
.ret)), [.slot 2]⟩
def n143 : Notes := { anns := [], frz := [], rgs := [] }
def c144 : CFn := ⟨sq ([
oo 2 (.mv (kb false))]) (
sq ([
om 3 0,
om 4 0,
ob 5 .neq (.t 3) (.t 4),
om 2 5]) (
.ret)), [.slot 2]⟩
def n144 : Notes := { anns := [], frz := [], rgs := [] }
def c145 : CFn := ⟨sq ([
oo 2 (.mv (kb false))]) (
sq ([
om 3 0,
om 4 0,
ob 5 .neq (.t 3) (.t 4),
om 2 5]) (
.ret)), [.slot 2]⟩
def n145 : Notes := { anns := [], frz := [], rgs := [] }
def c151 : CFn := ⟨sq ([
oo 4 (.mv (kb false))]) (
.seq (sq ([
om 6 0,
oo 7 (.len 0 (.t 6)),
oo 8 (.mv (ki 0))]) (
.block 0 (.loop ⟨[0, 1, 7, 8], [], [], [], [], true⟩ (sq ([
ob 9 .lss (.t 8) (.t 7)]) (
.seq (ct 9 (
.skip) (.exit 0)) (
.seq (.block 1 (sq ([
om 10 8,
om 5 10]) (
.seq (.region true [
om 11 5,
ow 12 (.bin .gtr (.t 11) (ki 0)) 1,
ow 13 (.mv (.t 12)) 3,
⟨some 14, .mv (.t 1), (some (13, true)), 7⟩,
⟨some 15, .mv (.t 0), (some (13, true)), 7⟩,
⟨some 16, .mv (.t 5), (some (13, true)), 7⟩,
⟨some 17, .bin .sub (.t 16) (ki 1), (some (13, true)), 39⟩,
⟨some 18, .ia 4 (.t 15) (.t 17), (some (13, true)), 119⟩,
⟨some 19, .ld true 4 (.t 18), (some (13, true)), 247⟩,
⟨some 20, .mv (.t 0), (some (13, true)), 7⟩,
⟨some 21, .mv (.t 5), (some (13, true)), 7⟩,
⟨some 22, .ia 4 (.t 20) (.t 21), (some (13, true)), 1543⟩,
⟨some 23, .ld true 4 (.t 22), (some (13, true)), 3591⟩,
⟨some 24, .callv (.t 14) [.t 19, .t 23] 4 true, (some (13, true)), 8191⟩,
⟨some 25, .bin .geq (.t 24) (ki 0), (some (13, true)), 16383⟩,
ow 26 (.pick (.t 13) (.t 25) (kb false)) 32767]) (
ct 26 (
sq ([
oo 4 (.mv (kb false))]) (
.ret)) (.skip))))) (
.region false [
ob 27 .add (.t 8) (ki 1),
om 8 27]))))))) (
sq ([
oo 4 (.mv (kb true))]) (
.ret))), [.slot 4]⟩
def n151 : Notes := { anns := [⟨[0, 1, 7, 8], [], [], [], [], true⟩], frz := [], rgs := [] }
def c152 : CFn := ⟨sq ([
oo 1 (.box (.t 0)),
oo 2 (.mv (kb false))]) (
sq ([
ol 3 true 4 1,
oo 4 (.call 153 [.t 3] 0 true),
oo 5 (.un .not (.t 4)),
om 2 5]) (
.ret)), [.slot 2]⟩
def n152 : Notes := { anns := [], frz := [], rgs := [] }
def c153 : CFn := ⟨sq ([
oo 1 (.box (.t 0)),
oo 2 (.mv (kb false))]) (
sq ([
oo 3 (fa 0 1),
ol 4 false 1 3,
ob 5 .eql (.t 4) (ki 4),
om 6 5,
og 7 (fa 3 1) 6,
og 8 (.ld false 1 (.t 7)) 6,
og 9 (.len 0 (.t 8)) 6,
og 10 (.bin .eql (.t 9) (ki 2)) 6,
oo 11 (.pick (.t 6) (.t 10) (kb false)),
om 12 11,
og 13 (fa 3 1) 12,
og 14 (.ld false 1 (.t 13)) 12,
og 15 (.ia 4 (.t 14) (ki 0)) 12,
og 16 (fa 0 15) 12,
og 17 (.ld false 1 (.t 16)) 12,
og 18 (.bin .eql (.t 17) (ki 3)) 12,
oo 19 (.pick (.t 12) (.t 18) (kb false)),
om 2 19]) (
.ret)), [.slot 2]⟩
def n153 : Notes := { anns := [], frz := [], rgs := [] }
def c154 : CFn := ⟨sq ([
oo 2 (.box (.t 0)),
oo 3 (.box (.t 1)),
oo 4 (.mv (ki 0))]) (
.seq (.region true [
ol 5 true 4 2,
ow 6 (.call 137 [.t 5] 0 true) 1,
ol 7 true 4 3,
ow 8 (.call 137 [.t 7] 0 true) 7,
ow 9 (.call 129 [.t 6, .t 8] 0 true) 15,
ow 4 (.mv (.t 9)) 31]) (
.ret)), [.slot 4]⟩
def n154 : Notes := { anns := [], frz := [], rgs := [] }
def c155 : CFn := ⟨sq ([
oo 4 (.mv (ki 0))]) (
.seq (sq ([
om 6 0,
oo 7 (.len 0 (.t 6)),
oo 8 (.mv (ki 0))]) (
.block 0 (.loop ⟨[0, 1, 7, 8], [], [], [], [], true⟩ (sq ([
ob 9 .lss (.t 8) (.t 7)]) (
.seq (ct 9 (
.skip) (.exit 0)) (
.seq (.block 1 (sq ([
om 10 8,
om 5 10]) (
sq ([
om 11 1,
om 12 0,
om 13 5,
oo 14 (.ia 4 (.t 12) (.t 13)),
ol 15 true 4 14,
oo 16 (.callv (.t 11) [.t 15] 4 true)]) (
ct 16 (
sq ([
om 17 5,
om 4 17]) (
.ret)) (.skip))))) (
.region false [
ob 18 .add (.t 8) (ki 1),
om 8 18]))))))) (
sq ([
oo 4 (.mv (.k (.d (.i .i64 (-1)))))]) (
.ret))), [.slot 4]⟩
def n155 : Notes := { anns := [⟨[0, 1, 7, 8], [], [], [], [], true⟩], frz := [], rgs := [] }
def c164 : CFn := ⟨sq ([
oo 0 (.mv (kb false))]) (
.seq (sq ([
oo 9 (.call 177 [] 0 true),
oo 10 (.un .not (.t 9))]) (
ct 10 (
sq ([
oo 0 (.mv (kb false))]) (
.ret)) (.skip))) (
sq ([
oo 11 (.call 178 [] 64 false),
oo 12 (.call 178 [] 64 false),
oo 1 (.zero (.agg [(.nil 3), (.nil 3), (.nil 3)])),
oo 2 (.zero (.agg [(.nil 3), (.nil 3), (.nil 3)])),
oz (.st 3 (.t 1) (.t 11)) 0,
oz (.st 3 (.t 2) (.t 12)) 0]) (
sq ([
oo 13 (fa 2 2),
ol 14 false 1 13,
oo 15 (.ia 3 (.t 14) (ki 1)),
oo 16 (fa 2 15),
ol 17 false 1 16,
oo 18 (.build zV [(0, 1, (ki 1)), (1, 1, (ki 1))]),
oo 19 (.build zE [(1, 4, .t 18)]),
oo 20 (.ia 10 (.t 17) (ki 0)),
oo 21 (fa 2 20),
oz (.st 8 (.t 21) (.t 19)) 0]) (
sq ([
oo 22 (.call 178 [] 64 false),
oo 3 (.zero (.agg [(.nil 3), (.nil 3), (.nil 3)])),
oz (.st 3 (.t 3) (.t 22)) 0]) (
sq ([
oo 23 (.bsa 3 0 [(.i .i64 0), (.l 2 []), (.l 10 [])] []),
oo 24 (fa 2 2),
ol 25 false 1 24,
oo 26 (.apa 3 56 (.t 23) (.t 25)),
oo 27 (.build [(.d (.b false)), (.d (.i .i64 0))] [(0, 1, (kb true))]),
oo 28 (.build [(.d (.b false)), (.d (.i .i64 0))] [(0, 1, (kb true))]),
oo 29 (.bsa 2 2 [(.b false), (.i .i64 0)] [(0, .t 27), (1, .t 28)]),
oo 30 (.build zE [(0, 1, (ki 1))]),
oo 31 (.build [(.d (.i .i64 0)), (.d (.i .i64 0)), (.d (.i .i64 0)), (.d (.i .i64 0)), (.d (.i .i64 0)), (.d (.s [])), (.nil 4), (.d (.i .i64 0)), (.d (.i .i64 0)), (.nil 8)] [(0, 1, (ki 0)), (1, 1, (ki 1)), (2, 8, .t 30)]),
oo 32 (.bsa 10 1 [(.i .i64 0), (.i .i64 0), (.i .i64 0), (.i .i64 0), (.i .i64 0), (.s []), (.l 4 []), (.i .i64 0), (.i .i64 0), (.l 8 [])] [(0, .t 31)]),
oo 33 (.build [(.d (.i .i64 0)), (.nil 2), (.nil 10)] [(0, 1, (ki 1)), (1, 1, .t 29), (2, 1, .t 32)]),
oo 34 (.bsa 3 1 [(.i .i64 0), (.l 2 []), (.l 10 [])] [(0, .t 33)]),
oo 35 (.apa 3 56 (.t 26) (.t 34)),
oo 36 (fa 2 3),
oz (.st 1 (.t 36) (.t 35)) 0]) (
sq ([
oo 37 (.call 178 [] 64 false),
oo 4 (.zero (.agg [(.nil 3), (.nil 3), (.nil 3)])),
oz (.st 3 (.t 4) (.t 37)) 0]) (
sq ([
oo 38 (.bsa 3 0 [(.i .i64 0), (.l 2 []), (.l 10 [])] []),
oo 39 (fa 2 2),
ol 40 false 1 39,
oo 41 (.apa 3 56 (.t 38) (.t 40)),
oo 42 (.build [(.d (.b false)), (.d (.i .i64 0))] [(1, 1, (ki 1))]),
oo 43 (.bsa 2 1 [(.b false), (.i .i64 0)] [(0, .t 42)]),
oo 44 (.build zE [(0, 1, (ki 1))]),
oo 45 (.build [(.d (.i .i64 0)), (.d (.i .i64 0)), (.d (.i .i64 0)), (.d (.i .i64 0)), (.d (.i .i64 0)), (.d (.s [])), (.nil 4), (.d (.i .i64 0)), (.d (.i .i64 0)), (.nil 8)] [(0, 1, (ki 1)), (1, 1, (ki 0)), (2, 8, .t 44)]),
oo 46 (.build zE [(0, 1, (ki 1)), (5, 1, (ki 1)), (6, 1, (ki 1))]),
oo 47 (.build [(.d (.i .i64 0)), (.d (.i .i64 0)), (.d (.i .i64 0)), (.d (.i .i64 0)), (.d (.i .i64 0)), (.d (.s [])), (.nil 4), (.d (.i .i64 0)), (.d (.i .i64 0)), (.nil 8)] [(0, 1, (ki 0)), (1, 1, (ki 1)), (2, 8, .t 46)]),
oo 48 (.bsa 10 2 [(.i .i64 0), (.i .i64 0), (.i .i64 0), (.i .i64 0), (.i .i64 0), (.s []), (.l 4 []), (.i .i64 0), (.i .i64 0), (.l 8 [])] [(0, .t 45), (1, .t 47)]),
oo 49 (.build [(.d (.i .i64 0)), (.nil 2), (.nil 10)] [(0, 1, (ki 1)), (1, 1, .t 43), (2, 1, .t 48)]),
oo 50 (.bsa 3 1 [(.i .i64 0), (.l 2 []), (.l 10 [])] [(0, .t 49)]),
oo 51 (.apa 3 56 (.t 41) (.t 50)),
oo 52 (fa 2 4),
oz (.st 1 (.t 52) (.t 51)) 0]) (
.seq (.region true [
ol 53 true 3 1,
ow 54 (.call 179 [.t 53] 0 true) 1,
ol 55 true 3 2,
ow 56 (.call 179 [.t 55] 0 true) 7,
ol 57 true 3 3,
ow 58 (.call 179 [.t 57] 0 true) 31,
ol 59 true 3 4,
ow 60 (.call 179 [.t 59] 0 true) 127,
ow 5 (.mv (.t 54)) 255,
ow 6 (.mv (.t 56)) 511,
ow 7 (.mv (.t 58)) 1023,
ow 8 (.mv (.t 60)) 2047]) (
.seq (sq ([
om 61 5,
oo 62 (.len 0 (.t 61)),
ob 63 .neq (.t 62) (ki 2),
om 64 63,
oh 65 (.mv (.t 6)) 64,
oh 66 (.len 0 (.t 65)) 64,
oh 67 (.bin .neq (.t 66) (ki 2)) 64,
oo 68 (.pick (.t 64) (kb true) (.t 67)),
om 69 68,
oh 70 (.mv (.t 7)) 69,
oh 71 (.len 0 (.t 70)) 69,
oh 72 (.bin .neq (.t 71) (ki 2)) 69,
oo 73 (.pick (.t 69) (kb true) (.t 72)),
om 74 73,
oh 75 (.mv (.t 8)) 74,
oh 76 (.len 0 (.t 75)) 74,
oh 77 (.bin .neq (.t 76) (ki 2)) 74,
oo 78 (.pick (.t 74) (kb true) (.t 77)),
om 79 78,
oh 80 (.mv (.t 5)) 79,
oh 81 (.ia 1 (.t 80) (ki 1)) 79,
oh 82 (.ld false 1 (.t 81)) 79,
oh 83 (.len 0 (.t 82)) 79,
oh 84 (.bin .neq (.t 83) (ki 2)) 79,
oo 85 (.pick (.t 79) (kb true) (.t 84)),
om 86 85,
oh 87 (.mv (.t 6)) 86,
oh 88 (.ia 1 (.t 87) (ki 1)) 86,
oh 89 (.ld false 1 (.t 88)) 86,
oh 90 (.len 0 (.t 89)) 86,
oh 91 (.bin .neq (.t 90) (ki 2)) 86,
oo 92 (.pick (.t 86) (kb true) (.t 91)),
om 93 92,
oh 94 (.mv (.t 7)) 93,
oh 95 (.ia 1 (.t 94) (ki 1)) 93,
oh 96 (.ld false 1 (.t 95)) 93,
oh 97 (.len 0 (.t 96)) 93,
oh 98 (.bin .neq (.t 97) (ki 2)) 93,
oo 99 (.pick (.t 93) (kb true) (.t 98)),
om 100 99,
oh 101 (.mv (.t 8)) 100,
oh 102 (.ia 1 (.t 101) (ki 1)) 100,
oh 103 (.ld false 1 (.t 102)) 100,
oh 104 (.len 0 (.t 103)) 100,
oh 105 (.bin .neq (.t 104) (ki 2)) 100,
oo 106 (.pick (.t 100) (kb true) (.t 105)),
om 107 106,
oh 108 (.mv (.t 5)) 107,
oh 109 (.ia 1 (.t 108) (ki 1)) 107,
oh 110 (.ld false 1 (.t 109)) 107,
oh 111 (.ia 1 (.t 110) (ki 0)) 107,
oh 112 (.ld false 1 (.t 111)) 107,
oh 113 (.len 0 (.t 112)) 107,
oh 114 (.bin .neq (.t 113) (ki 2)) 107,
oo 115 (.pick (.t 107) (kb true) (.t 114)),
om 116 115,
oh 117 (.mv (.t 6)) 116,
oh 118 (.ia 1 (.t 117) (ki 1)) 116,
oh 119 (.ld false 1 (.t 118)) 116,
oh 120 (.ia 1 (.t 119) (ki 0)) 116,
oh 121 (.ld false 1 (.t 120)) 116,
oh 122 (.len 0 (.t 121)) 116,
oh 123 (.bin .neq (.t 122) (ki 2)) 116,
oo 124 (.pick (.t 116) (kb true) (.t 123)),
om 125 124,
oh 126 (.mv (.t 7)) 125,
oh 127 (.ia 1 (.t 126) (ki 1)) 125,
oh 128 (.ld false 1 (.t 127)) 125,
oh 129 (.ia 1 (.t 128) (ki 0)) 125,
oh 130 (.ld false 1 (.t 129)) 125,
oh 131 (.len 0 (.t 130)) 125,
oh 132 (.bin .neq (.t 131) (ki 2)) 125,
oo 133 (.pick (.t 125) (kb true) (.t 132)),
om 134 133,
oh 135 (.mv (.t 8)) 134,
oh 136 (.ia 1 (.t 135) (ki 1)) 134,
oh 137 (.ld false 1 (.t 136)) 134,
oh 138 (.ia 1 (.t 137) (ki 0)) 134,
oh 139 (.ld false 1 (.t 138)) 134,
oh 140 (.len 0 (.t 139)) 134,
oh 141 (.bin .neq (.t 140) (ki 2)) 134,
oo 142 (.pick (.t 134) (kb true) (.t 141))]) (
ct 142 (
sq ([
oo 0 (.mv (kb false))]) (
.ret)) (.skip))) (
sq ([
ol 143 true 3 1,
oo 144 (.lend 180 [.t 143]),
om 145 144,
og 146 (.ld true 3 (.t 2)) 145,
og 147 (.lend 180 [.t 146]) 145,
og 148 (.un .not (.t 147)) 145,
oo 149 (.pick (.t 145) (.t 148) (kb false)),
om 150 149,
og 151 (.ld true 3 (.t 3)) 150,
og 152 (.lend 180 [.t 151]) 150,
oo 153 (.pick (.t 150) (.t 152) (kb false)),
om 154 153,
og 155 (.ld true 3 (.t 4)) 154,
og 156 (.lend 180 [.t 155]) 154,
og 157 (.un .not (.t 156)) 154,
oo 158 (.pick (.t 154) (.t 157) (kb false)),
om 159 158,
og 160 (.mv (.t 5)) 159,
og 161 (.ia 1 (.t 160) (ki 1)) 159,
og 162 (.ld false 1 (.t 161)) 159,
og 163 (.ia 1 (.t 162) (ki 0)) 159,
og 164 (.ld false 1 (.t 163)) 159,
og 165 (.ia 1 (.t 164) (ki 1)) 159,
og 166 (.ld false 1 (.t 165)) 159,
oo 167 (.pick (.t 159) (.t 166) (kb false)),
om 168 167,
og 169 (.mv (.t 6)) 168,
og 170 (.ia 1 (.t 169) (ki 1)) 168,
og 171 (.ld false 1 (.t 170)) 168,
og 172 (.ia 1 (.t 171) (ki 0)) 168,
og 173 (.ld false 1 (.t 172)) 168,
og 174 (.ia 1 (.t 173) (ki 1)) 168,
og 175 (.ld false 1 (.t 174)) 168,
og 176 (.un .not (.t 175)) 168,
oo 177 (.pick (.t 168) (.t 176) (kb false)),
om 178 177,
og 179 (.mv (.t 7)) 178,
og 180 (.ia 1 (.t 179) (ki 1)) 178,
og 181 (.ld false 1 (.t 180)) 178,
og 182 (.ia 1 (.t 181) (ki 0)) 178,
og 183 (.ld false 1 (.t 182)) 178,
og 184 (.ia 1 (.t 183) (ki 1)) 178,
og 185 (.ld false 1 (.t 184)) 178,
oo 186 (.pick (.t 178) (.t 185) (kb false)),
om 187 186,
og 188 (.mv (.t 8)) 187,
og 189 (.ia 1 (.t 188) (ki 1)) 187,
og 190 (.ld false 1 (.t 189)) 187,
og 191 (.ia 1 (.t 190) (ki 0)) 187,
og 192 (.ld false 1 (.t 191)) 187,
og 193 (.ia 1 (.t 192) (ki 1)) 187,
og 194 (.ld false 1 (.t 193)) 187,
og 195 (.un .not (.t 194)) 187,
oo 196 (.pick (.t 187) (.t 195) (kb false)),
om 0 196]) (
.ret))))))))))), [.slot 0]⟩
def n164 : Notes := { anns := [], frz := [0, 0, 0, 0, 64, 64, 0, 0, 0, 0, 0, 0, 0, 0, 0, 0, 0, 0, 0, 0, 64, 0, 0, 1, 0, 0, 1, 0, 0, 1, 0, 0, 1, 0, 1, 1, 0, 0, 64, 0, 0, 1, 0, 0, 1, 0, 1, 0, 0, 0, 0, 1, 0, 1, 1, 0, 0, 0, 0, 0, 0, 0, 0, 0, 0, 0, 0, 0, 0, 0, 0, 0, 0, 0, 0, 0, 0, 0, 0, 0, 0, 0, 0, 0, 0, 0, 0, 0, 0, 0, 0, 0, 0, 0, 0, 0, 0, 0, 0, 0, 0, 0, 0, 0, 0, 0, 0, 0, 0, 0, 0, 0, 0, 0, 0, 0, 0, 0, 0, 0, 0, 0, 0, 0, 0, 0, 0, 0, 0, 0, 0, 0, 0, 0, 0, 0, 0, 0, 0, 0, 0, 0, 0, 0, 0, 0, 0, 0, 0, 0, 0, 0, 0, 1, 0, 0, 1, 0, 0, 0, 0, 1, 0, 0, 0, 1], rgs := [] }
def c169 : CFn := ⟨sq ([
oo 1 (.box (.t 0)),
oo 2 (.mv (kb false))]) (
sq ([
ol 3 true 3 1,
oo 4 (.call 184 [.t 3] 0 true),
om 5 4,
og 6 (fa 1 1) 5,
og 7 (.ld false 1 (.t 6)) 5,
og 8 (.ia 3 (.t 7) (ki 0)) 5,
og 9 (fa 1 8) 5,
og 10 (.ld false 1 (.t 9)) 5,
og 11 (.len 0 (.t 10)) 5,
og 12 (.bin .eql (.t 11) (ki 0)) 5,
oo 13 (.pick (.t 5) (.t 12) (kb false)),
om 14 13,
og 15 (fa 2 1) 14,
og 16 (.ld false 1 (.t 15)) 14,
og 17 (.mkf 186 [] [.t 1] true) 14,
og 18 (.call 185 [.t 16, .t 17] 4 true) 14,
oo 19 (.pick (.t 14) (.t 18) (kb false)),
om 2 19]) (
.ret)), [.slot 2]⟩
def n169 : Notes := { anns := [], frz := [0, 0, 0, 0, 0, 0, 0, 0, 0, 0, 0, 0, 0, 0, 0, 0, 1], rgs := [] }
def c170 : CFn := ⟨sq ([
oo 2 (.zero (.agg [(.nil 3), (.nil 3), (.nil 3)]))]) (
sq ([
oo 4 (.build [(.d (.s [])), (.d (.s [])), (.d (.b false))] [(0, 1, (.k (.d (.s [110, 117, 109])))), (1, 1, (.k (.d (.s [91, 48, 45, 57, 93, 43]))))]),
oo 5 (.build [(.d (.s [])), (.d (.s [])), (.d (.b false))] [(0, 1, (.k (.d (.s [105, 100])))), (1, 1, (.k (.d (.s [91, 97, 45, 122, 93, 43]))))]),
oo 6 (.build [(.d (.s [])), (.d (.s [])), (.d (.b false))] [(0, 1, (.k (.d (.s [112, 108, 117, 115])))), (1, 1, (.k (.d (.s [92, 43]))))]),
oo 7 (.build [(.d (.s [])), (.d (.s [])), (.d (.b false))] [(0, 1, (.k (.d (.s [115, 116, 97, 114])))), (1, 1, (.k (.d (.s [92, 42]))))]),
oo 8 (.build [(.d (.s [])), (.d (.s [])), (.d (.b false))] [(0, 1, (.k (.d (.s [111, 112, 101, 110])))), (1, 1, (.k (.d (.s [92, 40]))))]),
oo 9 (.build [(.d (.s [])), (.d (.s [])), (.d (.b false))] [(0, 1, (.k (.d (.s [99, 108, 111, 115, 101])))), (1, 1, (.k (.d (.s [92, 41]))))]),
oo 10 (.build [(.d (.s [])), (.d (.s [])), (.d (.b false))] [(0, 1, (.k (.d (.s [98, 108, 97, 110, 107])))), (1, 1, (.k (.d (.s [91, 32, 92, 45, 93, 43])))), (2, 1, (kb true))]),
oo 11 (.build [(.d (.s [])), (.d (.s [])), (.d (.b false))] [(0, 1, (.k (.d (.s [108, 101, 116])))), (1, 1, (.k (.d (.s [61]))))]),
oo 12 (.bsa 3 8 [(.s []), (.s []), (.b false)] [(0, .t 4), (1, .t 5), (2, .t 6), (3, .t 7), (4, .t 8), (5, .t 9), (6, .t 10), (7, .t 11)]),
oo 13 (.build [(.nil 3), (.nil 3), (.nil 3)] [(0, 1, .t 12)]),
oo 3 (.zero (.agg [(.nil 3), (.nil 3), (.nil 3)])),
oz (.st 3 (.t 3) (.t 13)) 0]) (
sq ([
oo 14 (fa 0 3),
ol 15 false 1 14,
oo 16 (.ia 3 (.t 15) (ki 6)),
oo 17 (fa 1 16),
oz (.st 1 (.t 17) (.k (.d (.s [32, 43])))) 0]) (
sq ([
oo 18 (.bsa 1 2 [(.s [])] [(0, (.k (.d (.s [118, 97, 108])))), (1, (.k (.d (.s [98, 97, 100]))))]),
oo 19 (.build [(.d (.s [])), (.nil 1), (.nil 1)] [(0, 1, (.k (.d (.s [115])))), (2, 1, .t 18)]),
oo 20 (.bsa 1 1 [(.s [])] [(0, (.k (.d (.s [101, 110, 118]))))]),
oo 21 (.bsa 1 1 [(.s [])] [(0, (.k (.d (.s [118, 97, 108]))))]),
oo 22 (.build [(.d (.s [])), (.nil 1), (.nil 1)] [(0, 1, (.k (.d (.s [101])))), (1, 1, .t 20), (2, 1, .t 21)]),
oo 23 (.bsa 1 2 [(.s [])] [(0, (.k (.d (.s [101, 110, 118])))), (1, (.k (.d (.s [108, 101, 102, 116]))))]),
oo 24 (.bsa 1 1 [(.s [])] [(0, (.k (.d (.s [118, 97, 108]))))]),
oo 25 (.build [(.d (.s [])), (.nil 1), (.nil 1)] [(0, 1, (.k (.d (.s [109, 111, 114, 101])))), (1, 1, .t 23), (2, 1, .t 24)]),
oo 26 (.bsa 1 1 [(.s [])] [(0, (.k (.d (.s [101, 110, 118]))))]),
oo 27 (.bsa 1 2 [(.s [])] [(0, (.k (.d (.s [118, 97, 108])))), (1, (.k (.d (.s [115, 105, 122, 101]))))]),
oo 28 (.build [(.d (.s [])), (.nil 1), (.nil 1)] [(0, 1, (.k (.d (.s [102])))), (1, 1, .t 26), (2, 1, .t 27)]),
oo 29 (.bsa 3 4 [(.s []), (.l 1 []), (.l 1 [])] [(0, .t 19), (1, .t 22), (2, .t 25), (3, .t 28)]),
oo 30 (fa 1 3),
oz (.st 1 (.t 30) (.t 29)) 0]) (
sq ([
oo 31 (.build [(.d (.b false)), (.d (.i .i64 0))] [(1, 1, (ki 1))]),
oo 32 (.bsa 2 1 [(.b false), (.i .i64 0)] [(0, .t 31)]),
oo 33 (.build zE [(0, 1, (ki 22))]),
oo 34 (.build zV [(0, 1, (ki 3)), (2, 1, (.k (.d (.s [120]))))]),
oo 35 (.call 188 [.t 34] 0 true),
oo 36 (.build zV [(0, 1, (ki 1)), (1, 1, (ki 5))]),
oo 37 (.call 188 [.t 36] 0 true),
oo 38 (.bsa 8 3 [(.i .i64 0), (.i .i64 0), (.i .i64 0), (.s []), (.l 4 []), (.i .i64 0), (.i .i64 0), (.l 8 [])] [(0, .t 33), (1, .t 35), (2, .t 37)]),
oo 39 (.build zE [(0, 1, (ki 16)), (7, 1, .t 38)]),
oo 40 (.build [(.d (.i .i64 0)), (.d (.i .i64 0)), (.d (.i .i64 0)), (.d (.i .i64 0)), (.d (.i .i64 0)), (.d (.s [])), (.nil 4), (.d (.i .i64 0)), (.d (.i .i64 0)), (.nil 8)] [(0, 1, (ki 1)), (1, 1, (ki 0)), (2, 8, .t 39)]),
oo 41 (.call 189 [(ki 1), (ki 1)] 0 true),
oo 42 (.build [(.d (.i .i64 0)), (.d (.i .i64 0)), (.d (.i .i64 0)), (.d (.i .i64 0)), (.d (.i .i64 0)), (.d (.s [])), (.nil 4), (.d (.i .i64 0)), (.d (.i .i64 0)), (.nil 8)] [(0, 1, (ki 0)), (1, 1, (ki 0)), (2, 8, .t 41)]),
oo 43 (.call 189 [(ki 1), (ki 1)] 0 true),
oo 44 (.build zV [(0, 1, (ki 1)), (1, 1, (ki 10))]),
oo 45 (.call 188 [.t 44] 0 true),
oo 46 (.bsa 8 2 [(.i .i64 0), (.i .i64 0), (.i .i64 0), (.s []), (.l 4 []), (.i .i64 0), (.i .i64 0), (.l 8 [])] [(0, .t 43), (1, .t 45)]),
oo 47 (.build zE [(0, 1, (ki 8)), (7, 1, .t 46)]),
oo 48 (.build [(.d (.i .i64 0)), (.d (.i .i64 0)), (.d (.i .i64 0)), (.d (.i .i64 0)), (.d (.i .i64 0)), (.d (.s [])), (.nil 4), (.d (.i .i64 0)), (.d (.i .i64 0)), (.nil 8)] [(0, 1, (ki 0)), (1, 1, (ki 1)), (2, 8, .t 47)]),
oo 49 (.bsa 10 3 [(.i .i64 0), (.i .i64 0), (.i .i64 0), (.i .i64 0), (.i .i64 0), (.s []), (.l 4 []), (.i .i64 0), (.i .i64 0), (.l 8 [])] [(0, .t 40), (1, .t 42), (2, .t 48)]),
oo 50 (.build [(.d (.i .i64 0)), (.nil 2), (.nil 10)] [(0, 1, (ki 0)), (1, 1, .t 32), (2, 1, .t 49)]),
oo 51 (.build [(.d (.b false)), (.d (.i .i64 0))] [(1, 1, (ki 3))]),
oo 52 (.build [(.d (.b false)), (.d (.i .i64 0))] [(1, 1, (ki 2))]),
oo 53 (.bsa 2 2 [(.b false), (.i .i64 0)] [(0, .t 51), (1, .t 52)]),
oo 54 (.call 189 [(ki 0), (ki 0)] 0 true),
oo 55 (.build [(.d (.i .i64 0)), (.d (.i .i64 0)), (.d (.i .i64 0)), (.d (.i .i64 0)), (.d (.i .i64 0)), (.d (.s [])), (.nil 4), (.d (.i .i64 0)), (.d (.i .i64 0)), (.nil 8)] [(0, 1, (ki 1)), (1, 1, (ki 0)), (2, 8, .t 54)]),
oo 56 (.call 189 [(ki 0), (ki 0)] 0 true),
oo 57 (.build [(.d (.i .i64 0)), (.d (.i .i64 0)), (.d (.i .i64 0)), (.d (.i .i64 0)), (.d (.i .i64 0)), (.d (.s [])), (.nil 4), (.d (.i .i64 0)), (.d (.i .i64 0)), (.nil 8)] [(0, 1, (ki 2)), (1, 1, (ki 0)), (2, 8, .t 56)]),
oo 58 (.call 189 [(ki 1), (ki 1)] 0 true),
oo 59 (.build [(.d (.i .i64 0)), (.d (.i .i64 0)), (.d (.i .i64 0)), (.d (.i .i64 0)), (.d (.i .i64 0)), (.d (.s [])), (.nil 4), (.d (.i .i64 0)), (.d (.i .i64 0)), (.nil 8)] [(0, 1, (ki 2)), (1, 1, (ki 1)), (2, 8, .t 58)]),
oo 60 (.call 189 [(ki 2), (ki 2)] 0 true),
oo 61 (.build [(.d (.i .i64 0)), (.d (.i .i64 0)), (.d (.i .i64 0)), (.d (.i .i64 0)), (.d (.i .i64 0)), (.d (.s [])), (.nil 4), (.d (.i .i64 0)), (.d (.i .i64 0)), (.nil 8)] [(0, 1, (ki 0)), (1, 1, (ki 1)), (2, 8, .t 60)]),
oo 62 (.bsa 10 4 [(.i .i64 0), (.i .i64 0), (.i .i64 0), (.i .i64 0), (.i .i64 0), (.s []), (.l 4 []), (.i .i64 0), (.i .i64 0), (.l 8 [])] [(0, .t 55), (1, .t 57), (2, .t 59), (3, .t 61)]),
oo 63 (.build [(.d (.i .i64 0)), (.nil 2), (.nil 10)] [(0, 1, (ki 1)), (1, 1, .t 53), (2, 1, .t 62)]),
oo 64 (.call 190 [(ki 2)] 0 true),
oo 65 (.build [(.d (.b false)), (.d (.i .i64 0))] [(1, 1, (ki 3))]),
oo 66 (.build [(.d (.b false)), (.d (.i .i64 0))] [(1, 1, (ki 2))]),
oo 67 (.bsa 2 3 [(.b false), (.i .i64 0)] [(0, .t 64), (1, .t 65), (2, .t 66)]),
oo 68 (.call 189 [(ki 0), (ki 0)] 0 true),
oo 69 (.build [(.d (.i .i64 0)), (.d (.i .i64 0)), (.d (.i .i64 0)), (.d (.i .i64 0)), (.d (.i .i64 0)), (.d (.s [])), (.nil 4), (.d (.i .i64 0)), (.d (.i .i64 0)), (.nil 8)] [(0, 1, (ki 2)), (1, 1, (ki 0)), (2, 8, .t 68)]),
oo 70 (.call 189 [(ki 0), (ki 0)] 0 true),
oo 71 (.build [(.d (.i .i64 0)), (.d (.i .i64 0)), (.d (.i .i64 0)), (.d (.i .i64 0)), (.d (.i .i64 0)), (.d (.s [])), (.nil 4), (.d (.i .i64 0)), (.d (.i .i64 0)), (.nil 8)] [(0, 1, (ki 3)), (1, 1, (ki 0)), (2, 8, .t 70)]),
oo 72 (.call 189 [(ki 0), (ki 1)] 0 true),
oo 73 (.call 189 [(ki 2), (ki 1)] 0 true),
oo 74 (.bsa 8 2 [(.i .i64 0), (.i .i64 0), (.i .i64 0), (.s []), (.l 4 []), (.i .i64 0), (.i .i64 0), (.l 8 [])] [(0, .t 72), (1, .t 73)]),
oo 75 (.build zE [(0, 1, (ki 4)), (7, 1, .t 74)]),
oo 76 (.build [(.d (.i .i64 0)), (.d (.i .i64 0)), (.d (.i .i64 0)), (.d (.i .i64 0)), (.d (.i .i64 0)), (.d (.s [])), (.nil 4), (.d (.i .i64 0)), (.d (.i .i64 0)), (.nil 8)] [(0, 1, (ki 3)), (1, 1, (ki 1)), (2, 8, .t 75)]),
oo 77 (.call 189 [(ki 3), (ki 2)] 0 true),
oo 78 (.build [(.d (.i .i64 0)), (.d (.i .i64 0)), (.d (.i .i64 0)), (.d (.i .i64 0)), (.d (.i .i64 0)), (.d (.s [])), (.nil 4), (.d (.i .i64 0)), (.d (.i .i64 0)), (.nil 8)] [(0, 1, (ki 0)), (1, 1, (ki 2)), (2, 8, .t 77)]),
oo 79 (.bsa 10 4 [(.i .i64 0), (.i .i64 0), (.i .i64 0), (.i .i64 0), (.i .i64 0), (.s []), (.l 4 []), (.i .i64 0), (.i .i64 0), (.l 8 [])] [(0, .t 69), (1, .t 71), (2, .t 76), (3, .t 78)]),
oo 80 (.build [(.d (.i .i64 0)), (.nil 2), (.nil 10)] [(0, 1, (ki 2)), (1, 1, .t 67), (2, 1, .t 79)]),
oo 81 (.call 189 [(ki 0), (ki 1)] 0 true),
oo 82 (.build [(.d (.i .i64 0)), (.d (.i .i64 0)), (.d (.i .i64 0)), (.d (.i .i64 0)), (.d (.i .i64 0)), (.d (.s [])), (.nil 4), (.d (.i .i64 0)), (.d (.i .i64 0)), (.nil 8)] [(0, 1, (ki 0)), (1, 1, (ki 2)), (2, 8, .t 81)]),
oo 83 (.bsa 10 1 [(.i .i64 0), (.i .i64 0), (.i .i64 0), (.i .i64 0), (.i .i64 0), (.s []), (.l 4 []), (.i .i64 0), (.i .i64 0), (.l 8 [])] [(0, .t 82)]),
oo 84 (.build [(.d (.i .i64 0)), (.nil 2), (.nil 10)] [(0, 1, (ki 2)), (2, 1, .t 83)]),
oo 85 (.call 190 [(ki 0)] 0 true),
oo 86 (.bsa 2 1 [(.b false), (.i .i64 0)] [(0, .t 85)]),
oo 87 (.build zE [(0, 1, (ki 3)), (5, 1, (ki 1))]),
oo 88 (.build [(.d (.i .i64 0)), (.d (.i .i64 0)), (.d (.i .i64 0)), (.d (.i .i64 0)), (.d (.i .i64 0)), (.d (.s [])), (.nil 4), (.d (.i .i64 0)), (.d (.i .i64 0)), (.nil 8)] [(0, 1, (ki 0)), (1, 1, (ki 1)), (2, 8, .t 87)]),
oo 89 (.build zV [(0, 1, (ki 1)), (1, 1, (ki 1))]),
oo 90 (.call 188 [.t 89] 0 true),
oo 91 (.build [(.d (.i .i64 0)), (.d (.i .i64 0)), (.d (.i .i64 0)), (.d (.i .i64 0)), (.d (.i .i64 0)), (.d (.s [])), (.nil 4), (.d (.i .i64 0)), (.d (.i .i64 0)), (.nil 8)] [(0, 1, (ki 0)), (1, 1, (ki 2)), (2, 8, .t 90)]),
oo 92 (.bsa 10 2 [(.i .i64 0), (.i .i64 0), (.i .i64 0), (.i .i64 0), (.i .i64 0), (.s []), (.l 4 []), (.i .i64 0), (.i .i64 0), (.l 8 [])] [(0, .t 88), (1, .t 91)]),
oo 93 (.build [(.d (.i .i64 0)), (.nil 2), (.nil 10)] [(0, 1, (ki 3)), (1, 1, .t 86), (2, 1, .t 92)]),
oo 94 (.call 190 [(ki 1)] 0 true),
oo 95 (.bsa 2 1 [(.b false), (.i .i64 0)] [(0, .t 94)]),
oo 96 (.call 189 [(ki 0), (ki 0)] 0 true),
oo 97 (.build zE [(0, 1, (ki 2)), (5, 1, (ki 1))]),
oo 98 (.bsa 8 2 [(.i .i64 0), (.i .i64 0), (.i .i64 0), (.s []), (.l 4 []), (.i .i64 0), (.i .i64 0), (.l 8 [])] [(0, .t 96), (1, .t 97)]),
oo 99 (.build zE [(0, 1, (ki 17)), (7, 1, .t 98)]),
oo 100 (.build [(.d (.i .i64 0)), (.d (.i .i64 0)), (.d (.i .i64 0)), (.d (.i .i64 0)), (.d (.i .i64 0)), (.d (.s [])), (.nil 4), (.d (.i .i64 0)), (.d (.i .i64 0)), (.nil 8)] [(0, 1, (ki 0)), (1, 1, (ki 1)), (2, 8, .t 99)]),
oo 101 (.build zE [(0, 1, (ki 2)), (5, 1, (ki 1))]),
oo 102 (.bsa 8 1 [(.i .i64 0), (.i .i64 0), (.i .i64 0), (.s []), (.l 4 []), (.i .i64 0), (.i .i64 0), (.l 8 [])] [(0, .t 101)]),
oo 103 (.build zE [(0, 1, (ki 15)), (7, 1, .t 102)]),
oo 104 (.build [(.d (.i .i64 0)), (.d (.i .i64 0)), (.d (.i .i64 0)), (.d (.i .i64 0)), (.d (.i .i64 0)), (.d (.s [])), (.nil 4), (.d (.i .i64 0)), (.d (.i .i64 0)), (.nil 8)] [(0, 1, (ki 0)), (1, 1, (ki 2)), (2, 8, .t 103)]),
oo 105 (.bsa 10 2 [(.i .i64 0), (.i .i64 0), (.i .i64 0), (.i .i64 0), (.i .i64 0), (.s []), (.l 4 []), (.i .i64 0), (.i .i64 0), (.l 8 [])] [(0, .t 100), (1, .t 104)]),
oo 106 (.build [(.d (.i .i64 0)), (.nil 2), (.nil 10)] [(0, 1, (ki 3)), (1, 1, .t 95), (2, 1, .t 105)]),
oo 107 (.call 190 [(ki 4)] 0 true),
oo 108 (.build [(.d (.b false)), (.d (.i .i64 0))] [(1, 1, (ki 1))]),
oo 109 (.call 190 [(ki 5)] 0 true),
oo 110 (.bsa 2 3 [(.b false), (.i .i64 0)] [(0, .t 107), (1, .t 108), (2, .t 109)]),
oo 111 (.call 189 [(ki 0), (ki 0)] 0 true),
oo 112 (.build [(.d (.i .i64 0)), (.d (.i .i64 0)), (.d (.i .i64 0)), (.d (.i .i64 0)), (.d (.i .i64 0)), (.d (.s [])), (.nil 4), (.d (.i .i64 0)), (.d (.i .i64 0)), (.nil 8)] [(0, 1, (ki 2)), (1, 1, (ki 0)), (2, 8, .t 111)]),
oo 113 (.call 189 [(ki 2), (ki 1)] 0 true),
oo 114 (.build [(.d (.i .i64 0)), (.d (.i .i64 0)), (.d (.i .i64 0)), (.d (.i .i64 0)), (.d (.i .i64 0)), (.d (.s [])), (.nil 4), (.d (.i .i64 0)), (.d (.i .i64 0)), (.nil 8)] [(0, 1, (ki 0)), (1, 1, (ki 1)), (2, 8, .t 113)]),
oo 115 (.build zV [(0, 1, (ki 1)), (1, 1, (ki 2))]),
oo 116 (.call 188 [.t 115] 0 true),
oo 117 (.build [(.d (.i .i64 0)), (.d (.i .i64 0)), (.d (.i .i64 0)), (.d (.i .i64 0)), (.d (.i .i64 0)), (.d (.s [])), (.nil 4), (.d (.i .i64 0)), (.d (.i .i64 0)), (.nil 8)] [(0, 1, (ki 0)), (1, 1, (ki 2)), (2, 8, .t 116)]),
oo 118 (.bsa 10 3 [(.i .i64 0), (.i .i64 0), (.i .i64 0), (.i .i64 0), (.i .i64 0), (.s []), (.l 4 []), (.i .i64 0), (.i .i64 0), (.l 8 [])] [(0, .t 112), (1, .t 114), (2, .t 117)]),
oo 119 (.build [(.d (.i .i64 0)), (.nil 2), (.nil 10)] [(0, 1, (ki 3)), (1, 1, .t 110), (2, 1, .t 118)]),
oo 120 (.bsa 3 7 [(.i .i64 0), (.l 2 []), (.l 10 [])] [(0, .t 50), (1, .t 63), (2, .t 80), (3, .t 84), (4, .t 93), (5, .t 106), (6, .t 119)]),
oo 121 (fa 2 3),
oz (.st 1 (.t 121) (.t 120)) 0]) (
.seq (sq ([
om 122 0,
ob 123 .rem (.t 122) (ki 4)]) (
.block 0 (sq ([
ob 125 .eql (.t 123) (ki 1),
om 124 125]) (
ct 124 (
.region true [
oo 126 (fa 2 3),
ow 127 (.ld false 1 (.t 126)) 1,
oo 128 (.call 190 [(ki 7)] 0 true),
ow 129 (.call 190 [(ki 1)] 0 true) 4,
oo 130 (.build [(.d (.b false)), (.d (.i .i64 0))] [(1, 1, (ki 3))]),
oo 131 (.build [(.d (.b false)), (.d (.i .i64 0))] [(1, 1, (ki 3))]),
ow 132 (.bsa 2 4 [(.b false), (.i .i64 0)] [(0, .t 128), (1, .t 129), (2, .t 130), (3, .t 131)]) 60,
ow 133 (.call 189 [(ki 0), (ki 0)] 0 true) 12,
ow 134 (.build [(.d (.i .i64 0)), (.d (.i .i64 0)), (.d (.i .i64 0)), (.d (.i .i64 0)), (.d (.i .i64 0)), (.d (.s [])), (.nil 4), (.d (.i .i64 0)), (.d (.i .i64 0)), (.nil 8)] [(0, 1, (ki 3)), (1, 1, (ki 0)), (2, 8, .t 133)]) 140,
ow 135 (.call 189 [(ki 0), (ki 0)] 0 true) 140,
oo 136 (.build zE [(0, 1, (ki 2)), (5, 1, (ki 2))]),
ow 137 (.call 189 [(ki 3), (ki 1)] 0 true) 652,
ow 138 (.bsa 8 3 [(.i .i64 0), (.i .i64 0), (.i .i64 0), (.s []), (.l 4 []), (.i .i64 0), (.i .i64 0), (.l 8 [])] [(0, .t 135), (1, .t 136), (2, .t 137)]) 3724,
ow 139 (.build zE [(0, 1, (ki 16)), (7, 1, .t 138)]) 7820,
ow 140 (.build [(.d (.i .i64 0)), (.d (.i .i64 0)), (.d (.i .i64 0)), (.d (.i .i64 0)), (.d (.i .i64 0)), (.d (.s [])), (.nil 4), (.d (.i .i64 0)), (.d (.i .i64 0)), (.nil 8)] [(0, 1, (ki 4)), (1, 1, (ki 0)), (2, 8, .t 139)]) 16012,
ow 141 (.call 189 [(ki 4), (ki 1)] 0 true) 2700,
ow 142 (.build [(.d (.i .i64 0)), (.d (.i .i64 0)), (.d (.i .i64 0)), (.d (.i .i64 0)), (.d (.i .i64 0)), (.d (.s [])), (.nil 4), (.d (.i .i64 0)), (.d (.i .i64 0)), (.nil 8)] [(0, 1, (ki 0)), (1, 1, (ki 1)), (2, 8, .t 141)]) 35468,
ow 143 (.call 189 [(ki 3), (ki 2)] 0 true) 35468,
ow 144 (.call 189 [(ki 4), (ki 2)] 0 true) 166540,
ow 145 (.bsa 8 2 [(.i .i64 0), (.i .i64 0), (.i .i64 0), (.s []), (.l 4 []), (.i .i64 0), (.i .i64 0), (.l 8 [])] [(0, .t 143), (1, .t 144)]) 428684,
ow 146 (.build zE [(0, 1, (ki 4)), (7, 1, .t 145)]) 952972,
ow 147 (.build [(.d (.i .i64 0)), (.d (.i .i64 0)), (.d (.i .i64 0)), (.d (.i .i64 0)), (.d (.i .i64 0)), (.d (.s [])), (.nil 4), (.d (.i .i64 0)), (.d (.i .i64 0)), (.nil 8)] [(0, 1, (ki 0)), (1, 1, (ki 2)), (2, 8, .t 146)]) 2001548,
ow 148 (.bsa 10 4 [(.i .i64 0), (.i .i64 0), (.i .i64 0), (.i .i64 0), (.i .i64 0), (.s []), (.l 4 []), (.i .i64 0), (.i .i64 0), (.l 8 [])] [(0, .t 134), (1, .t 140), (2, .t 142), (3, .t 147)]) 4194188,
ow 149 (.build [(.d (.i .i64 0)), (.nil 2), (.nil 10)] [(0, 1, (ki 3)), (1, 1, .t 132), (2, 1, .t 148)]) 8388604,
ow 150 (.bsa 3 1 [(.i .i64 0), (.l 2 []), (.l 10 [])] [(0, .t 149)]) 16777212,
ow 151 (.apa 3 56 (.t 127) (.t 150)) 33554431,
ow 152 (fa 2 3) 67108863,
oz (.st 1 (.t 152) (.t 151)) 134217727]) (sq ([
ob 154 .eql (.t 123) (ki 2),
om 153 154]) (
ct 153 (
.region false [
oo 155 (fa 2 3),
ol 156 false 1 155,
oo 157 (.ia 3 (.t 156) (ki 2)),
oo 158 (fa 2 157),
ol 159 false 1 158,
oo 160 (.ia 10 (.t 159) (ki 2)),
oo 161 (fa 2 160),
oo 162 (fa 0 161),
oz (.st 1 (.t 162) (ki 6)) 0]) (sq ([
ob 164 .eql (.t 123) (ki 3),
om 163 164]) (
ct 163 (
.region false [
oo 165 (fa 2 3),
ol 166 false 1 165,
oo 167 (.ia 3 (.t 166) (ki 0)),
oo 168 (fa 2 167),
ol 169 false 1 168,
oo 170 (.build zE [(0, 1, (ki 22))]),
oo 171 (.ia 10 (.t 169) (ki 0)),
oo 172 (fa 2 171),
oz (.st 8 (.t 172) (.t 170)) 0]) (.skip))))))))) (
sq ([
ol 173 true 3 3,
oz (.st 3 (.t 2) (.t 173)) 0]) (
.ret))))))), [.cell 2 true 3]⟩
def n170 : Notes := { anns := [], frz := [0, 0, 0, 0, 0, 0, 0, 0, 0, 1, 0, 0, 0, 0, 0, 0, 0, 0, 1, 0, 1, 1, 0, 1, 1, 0, 1, 1, 0, 1, 0, 0, 0, 1, 0, 0, 0, 0, 0, 1, 0, 0, 0, 0, 0, 0, 0, 1, 0, 0, 1, 0, 0, 0, 1, 0, 0, 0, 0, 0, 0, 0, 0, 1, 0, 0, 0, 0, 1, 0, 0, 0, 0, 0, 0, 1, 0, 0, 0, 0, 1, 0, 0, 0, 1, 0, 0, 1, 0, 0, 0, 0, 0, 1, 0, 0, 1, 0, 0, 1, 0, 0, 0, 1, 0, 0, 1, 0, 0, 0, 0, 1, 0, 0, 0, 0, 0, 0, 0, 1, 0, 1, 0, 0, 0, 0, 0, 0, 0, 0, 0, 0, 0, 0, 1, 0, 0, 0, 0, 0, 1, 0, 0, 0, 0, 0, 0, 1, 0, 0, 1, 0, 1, 1], rgs := [] }
def c172 : CFn := ⟨sq ([
oo 2 (.box (.t 0)),
oo 4 (.mv (.k (.nil 4)))]) (
.seq (sq ([
ol 9 true 3 2,
oo 10 (.lend 169 [.t 9]),
oo 11 (.un .not (.t 10)),
om 12 11,
oh 13 (.mv (.t 1)) 12,
oh 14 (.bin .lss (.t 13) (ki 0)) 12,
oo 15 (.pick (.t 12) (kb true) (.t 14)),
om 16 15,
oh 17 (.mv (.t 1)) 16,
oh 18 (fa 2 2) 16,
oh 19 (.ld false 1 (.t 18)) 16,
oh 20 (.len 0 (.t 19)) 16,
oh 21 (.bin .geq (.t 17) (.t 20)) 16,
oo 22 (.pick (.t 16) (kb true) (.t 21))]) (
ct 22 (
sq ([
oo 4 (.mv (.k (.nil 4)))]) (
.ret)) (.skip))) (
.seq (sq ([
oo 23 (fa 2 2),
ol 24 false 1 23,
om 25 1,
oo 26 (.ia 3 (.t 24) (.t 25)),
oo 27 (fa 2 26),
ol 28 false 1 27,
oo 29 (.len 0 (.t 28)),
oo 30 (.mv (ki 0))]) (
.block 0 (.loop ⟨[4, 28, 29, 30], [4], [], [], [], true⟩ (sq ([
ob 31 .lss (.t 30) (.t 29)]) (
.seq (ct 31 (
.skip) (.exit 0)) (
.seq (.block 1 (sq ([
oo 32 (.ia 10 (.t 28) (.t 30)),
ol 33 true 10 32,
oo 6 (.zero (.agg [(.d (.i .i64 0)), (.d (.i .i64 0)), (.d (.i .i64 0)), (.d (.i .i64 0)), (.d (.i .i64 0)), (.d (.s [])), (.nil 4), (.d (.i .i64 0)), (.d (.i .i64 0)), (.nil 8)])),
oz (.st 10 (.t 6) (.t 33)) 0]) (
sq ([
oo 34 (fa 2 6),
ol 35 true 8 34,
oo 36 (.call 192 [.t 35] 0 true),
oo 37 (.call 191 [.t 36] 0 true),
oo 38 (.len 0 (.t 37)),
oo 39 (.mv (ki 0))]) (
.block 2 (.loop ⟨[4, 6, 28, 29, 30, 37, 38, 39], [4], [], [], [], true⟩ (sq ([
ob 40 .lss (.t 39) (.t 38)]) (
.seq (ct 40 (
.skip) (.exit 2)) (
.seq (.block 3 (sq ([
oo 41 (.ia 2 (.t 37) (.t 39)),
ol 42 true 2 41,
oo 8 (.zero (.agg [(.d (.i .i64 0)), (.d (.i .i64 0))])),
oz (.st 2 (.t 8) (.t 42)) 0]) (
.region false [
om 43 4,
ol 44 true 2 8,
oo 45 (fa 0 6),
ol 46 false 1 45,
oo 47 (fa 1 6),
ol 48 false 1 47,
oo 49 (.build [(.d (.i .i64 0)), (.d (.i .i64 0))] [(0, 1, .t 46), (1, 1, .t 48)]),
oo 50 (.build [(.d (.i .i64 0)), (.d (.i .i64 0)), (.d (.i .i64 0)), (.d (.i .i64 0))] [(0, 2, .t 44), (2, 2, .t 49)]),
oo 51 (.bsl 4 1 [(.i .i64 0), (.i .i64 0), (.i .i64 0), (.i .i64 0)] [(0, .t 50)]),
oo 52 (.app 4 32 (.t 43) (.t 51)),
om 4 52]))) (
.region false [
ob 53 .add (.t 39) (ki 1),
om 39 53]))))))))) (
.region false [
ob 54 .add (.t 30) (ki 1),
om 30 54]))))))) (
sq ([
om 55 4,
om 4 55]) (
.ret)))), [.slot 4]⟩
def n172 : Notes := { anns := [⟨[4, 28, 29, 30], [4], [], [], [], true⟩, ⟨[4, 6, 28, 29, 30, 37, 38, 39], [4], [], [], [], true⟩], frz := [0, 0, 0, 1], rgs := [] }
def c177 : CFn := ⟨sq ([
oo 0 (.mv (kb false))]) (
sq ([
oo 3 (.call 170 [(ki 0)] 0 true),
oo 1 (.zero (.agg [(.nil 3), (.nil 3), (.nil 3)])),
oz (.st 3 (.t 1) (.t 3)) 0]) (
sq ([
ol 4 true 3 1,
oo 5 (.call 179 [.t 4] 0 true),
om 2 5]) (
sq ([
om 6 2,
oo 7 (.len 0 (.t 6)),
ob 8 .eql (.t 7) (ki 4),
om 9 8,
og 10 (.mv (.t 2)) 9,
og 11 (.ia 1 (.t 10) (ki 2)) 9,
og 12 (.ld false 1 (.t 11)) 9,
og 13 (.len 0 (.t 12)) 9,
og 14 (.bin .eql (.t 13) (ki 3)) 9,
oo 15 (.pick (.t 9) (.t 14) (kb false)),
om 16 15,
og 17 (.mv (.t 2)) 16,
og 18 (.ia 1 (.t 17) (ki 2)) 16,
og 19 (.ld false 1 (.t 18)) 16,
og 20 (.ia 1 (.t 19) (ki 1)) 16,
og 21 (.ld false 1 (.t 20)) 16,
og 22 (.len 0 (.t 21)) 16,
og 23 (.bin .eql (.t 22) (ki 3)) 16,
oo 24 (.pick (.t 16) (.t 23) (kb false)),
om 25 24,
og 26 (.mv (.t 2)) 25,
og 27 (.ia 1 (.t 26) (ki 2)) 25,
og 28 (.ld false 1 (.t 27)) 25,
og 29 (.ia 1 (.t 28) (ki 2)) 25,
og 30 (.ld false 1 (.t 29)) 25,
og 31 (.len 0 (.t 30)) 25,
og 32 (.bin .eql (.t 31) (ki 3)) 25,
oo 33 (.pick (.t 25) (.t 32) (kb false)),
om 34 33,
og 35 (.mv (.t 2)) 34,
og 36 (.ia 1 (.t 35) (ki 1)) 34,
og 37 (.ld false 1 (.t 36)) 34,
og 38 (.len 0 (.t 37)) 34,
og 39 (.bin .eql (.t 38) (ki 2)) 34,
oo 40 (.pick (.t 34) (.t 39) (kb false)),
om 41 40,
og 42 (.mv (.t 2)) 41,
og 43 (.ia 1 (.t 42) (ki 1)) 41,
og 44 (.ld false 1 (.t 43)) 41,
og 45 (.ia 1 (.t 44) (ki 0)) 41,
og 46 (.ld false 1 (.t 45)) 41,
og 47 (.len 0 (.t 46)) 41,
og 48 (.bin .eql (.t 47) (ki 2)) 41,
oo 49 (.pick (.t 41) (.t 48) (kb false)),
om 50 49,
og 51 (.mv (.t 2)) 50,
og 52 (.ia 1 (.t 51) (ki 2)) 50,
og 53 (.ld false 1 (.t 52)) 50,
og 54 (.ia 1 (.t 53) (ki 1)) 50,
og 55 (.ld false 1 (.t 54)) 50,
og 56 (.ia 1 (.t 55) (ki 2)) 50,
og 57 (.ld false 1 (.t 56)) 50,
oo 58 (.pick (.t 50) (.t 57) (kb false)),
om 59 58,
og 60 (.mv (.t 2)) 59,
og 61 (.ia 1 (.t 60) (ki 2)) 59,
og 62 (.ld false 1 (.t 61)) 59,
og 63 (.ia 1 (.t 62) (ki 2)) 59,
og 64 (.ld false 1 (.t 63)) 59,
og 65 (.ia 1 (.t 64) (ki 1)) 59,
og 66 (.ld false 1 (.t 65)) 59,
og 67 (.un .not (.t 66)) 59,
oo 68 (.pick (.t 59) (.t 67) (kb false)),
om 69 68,
og 70 (.mv (.t 2)) 69,
og 71 (.ia 1 (.t 70) (ki 1)) 69,
og 72 (.ld false 1 (.t 71)) 69,
og 73 (.ia 1 (.t 72) (ki 0)) 69,
og 74 (.ld false 1 (.t 73)) 69,
og 75 (.ia 1 (.t 74) (ki 1)) 69,
og 76 (.ld false 1 (.t 75)) 69,
oo 77 (.pick (.t 69) (.t 76) (kb false)),
om 78 77,
og 79 (.ld true 3 (.t 1)) 78,
og 80 (.call 180 [.t 79] 0 true) 78,
og 81 (.un .not (.t 80)) 78,
oo 82 (.pick (.t 78) (.t 81) (kb false)),
om 83 82,
og 84 (.call 178 [] 0 true) 83,
og 85 (.call 180 [.t 84] 0 true) 83,
oo 86 (.pick (.t 83) (.t 85) (kb false)),
om 87 86,
og 88 (.build [(.nil 3), (.nil 3), (.nil 3)] []) 87,
og 89 (.call 179 [.t 88] 0 true) 87,
og 90 (.len 0 (.t 89)) 87,
og 91 (.bin .eql (.t 90) (ki 0)) 87,
oo 92 (.pick (.t 87) (.t 91) (kb false)),
om 0 92]) (
.ret)))), [.slot 0]⟩
def n177 : Notes := { anns := [], frz := [], rgs := [] }
def c178 : CFn := ⟨sq ([
oo 0 (.zero (.agg [(.nil 3), (.nil 3), (.nil 3)]))]) (
sq ([
oo 1 (.build [(.d (.s [])), (.d (.s [])), (.d (.b false))] [(0, 1, (.k (.d (.s [97])))), (1, 1, (.k (.d (.s [97]))))]),
oo 2 (.bsa 3 1 [(.s []), (.s []), (.b false)] [(0, .t 1)]),
oo 3 (.bsa 1 1 [(.s [])] [(0, (.k (.d (.s [118]))))]),
oo 4 (.build [(.d (.s [])), (.nil 1), (.nil 1)] [(0, 1, (.k (.d (.s [115])))), (2, 1, .t 3)]),
oo 5 (.bsa 1 1 [(.s [])] [(0, (.k (.d (.s [105]))))]),
oo 6 (.bsa 1 1 [(.s [])] [(0, (.k (.d (.s [111]))))]),
oo 7 (.build [(.d (.s [])), (.nil 1), (.nil 1)] [(0, 1, (.k (.d (.s [120])))), (1, 1, .t 5), (2, 1, .t 6)]),
oo 8 (.bsa 3 2 [(.s []), (.l 1 []), (.l 1 [])] [(0, .t 4), (1, .t 7)]),
oo 9 (.build [(.d (.b false)), (.d (.i .i64 0))] [(1, 1, (ki 1))]),
oo 10 (.bsa 2 1 [(.b false), (.i .i64 0)] [(0, .t 9)]),
oo 11 (.build zE [(0, 1, (ki 1)), (5, 1, (ki 1)), (6, 1, (ki 1))]),
oo 12 (.build [(.d (.i .i64 0)), (.d (.i .i64 0)), (.d (.i .i64 0)), (.d (.i .i64 0)), (.d (.i .i64 0)), (.d (.s [])), (.nil 4), (.d (.i .i64 0)), (.d (.i .i64 0)), (.nil 8)] [(0, 1, (ki 1)), (1, 1, (ki 0)), (2, 8, .t 11)]),
oo 13 (.build zE [(0, 1, (ki 1)), (5, 1, (ki 1)), (6, 1, (ki 1))]),
oo 14 (.build [(.d (.i .i64 0)), (.d (.i .i64 0)), (.d (.i .i64 0)), (.d (.i .i64 0)), (.d (.i .i64 0)), (.d (.s [])), (.nil 4), (.d (.i .i64 0)), (.d (.i .i64 0)), (.nil 8)] [(0, 1, (ki 0)), (1, 1, (ki 0)), (2, 8, .t 13)]),
oo 15 (.bsa 10 2 [(.i .i64 0), (.i .i64 0), (.i .i64 0), (.i .i64 0), (.i .i64 0), (.s []), (.l 4 []), (.i .i64 0), (.i .i64 0), (.l 8 [])] [(0, .t 12), (1, .t 14)]),
oo 16 (.build [(.d (.i .i64 0)), (.nil 2), (.nil 10)] [(1, 1, .t 10), (2, 1, .t 15)]),
oo 17 (.build [(.d (.b false)), (.d (.i .i64 0))] [(0, 1, (kb true))]),
oo 18 (.bsa 2 1 [(.b false), (.i .i64 0)] [(0, .t 17)]),
oo 19 (.build zE [(0, 1, (ki 1))]),
oo 20 (.build [(.d (.i .i64 0)), (.d (.i .i64 0)), (.d (.i .i64 0)), (.d (.i .i64 0)), (.d (.i .i64 0)), (.d (.s [])), (.nil 4), (.d (.i .i64 0)), (.d (.i .i64 0)), (.nil 8)] [(0, 1, (ki 0)), (1, 1, (ki 1)), (2, 8, .t 19)]),
oo 21 (.bsa 10 1 [(.i .i64 0), (.i .i64 0), (.i .i64 0), (.i .i64 0), (.i .i64 0), (.s []), (.l 4 []), (.i .i64 0), (.i .i64 0), (.l 8 [])] [(0, .t 20)]),
oo 22 (.build [(.d (.i .i64 0)), (.nil 2), (.nil 10)] [(0, 1, (ki 1)), (1, 1, .t 18), (2, 1, .t 21)]),
oo 23 (.bsa 3 2 [(.i .i64 0), (.l 2 []), (.l 10 [])] [(0, .t 16), (1, .t 22)]),
oo 24 (.build [(.nil 3), (.nil 3), (.nil 3)] [(0, 1, .t 2), (1, 1, .t 8), (2, 1, .t 23)]),
oz (.st 3 (.t 0) (.t 24)) 0]) (
.ret)), [.cell 0 true 3]⟩
def n178 : Notes := { anns := [], frz := [0, 0, 1, 1, 0, 1, 1, 0, 1, 0, 1, 0, 0, 0, 0, 1, 0, 0, 1, 0, 0, 1, 0, 1], rgs := [] }
def c179 : CFn := ⟨sq ([
oo 1 (.box (.t 0)),
oo 2 (.mv (.k (.nil 1)))]) (
.seq (sq ([
ol 11 true 3 1,
oo 12 (.lend 169 [.t 11]),
oo 13 (.un .not (.t 12))]) (
ct 13 (
sq ([
oo 2 (.mv (.k (.nil 1)))]) (
.ret)) (.skip))) (
sq ([
oo 14 (.bsa 1 0 [(.l 1 [])] []),
om 3 14]) (
.seq (sq ([
oo 15 (fa 1 1),
ol 16 false 1 15,
oo 17 (.len 0 (.t 16)),
oo 18 (.mv (ki 0))]) (
.block 0 (.loop ⟨[1, 3, 17, 18], [], [], [], [], false⟩ (sq ([
ob 19 .lss (.t 18) (.t 17)]) (
.seq (ct 19 (
.skip) (.exit 0)) (
.seq (.block 1 (sq ([
om 20 18,
om 4 20]) (
sq ([
ol 21 true 3 1,
om 22 4,
oo 23 (.lend 181 [.t 21, .t 22]),
oo 24 (.mks 1 24 [(.l 1 [])] false (.t 23) (.t 23)),
om 5 24]) (
.seq (sq ([
om 25 5,
oo 26 (.len 0 (.t 25)),
oo 27 (.mv (ki 0))]) (
.block 2 (.loop ⟨[1, 3, 4, 5, 17, 18, 26, 27], [], [], [], [], false⟩ (sq ([
ob 28 .lss (.t 27) (.t 26)]) (
.seq (ct 28 (
.skip) (.exit 2)) (
.seq (.block 3 (sq ([
om 29 27,
om 6 29]) (
.region false [
om 30 5,
om 31 6,
ol 32 true 3 1,
om 33 4,
oo 34 (.lend 181 [.t 32, .t 33]),
oo 35 (.mks 1 1 [(.b false)] false (.t 34) (.t 34)),
oo 36 (.ia 1 (.t 30) (.t 31)),
oz (.st 1 (.t 36) (.t 35)) 0]))) (
.region false [
ob 37 .add (.t 27) (ki 1),
om 27 37]))))))) (
.region false [
om 38 3,
om 39 5,
oo 40 (.bsa 1 1 [(.l 1 [])] [(0, .t 39)]),
oo 41 (.apa 1 24 (.t 38) (.t 40)),
om 3 41]))))) (
.region false [
ob 42 .add (.t 18) (ki 1),
om 18 42]))))))) (
sq ([
ol 43 true 3 1,
oo 44 (.call 193 [.t 43] 0 true),
om 7 44]) (
.seq (sq ([
oo 8 (.mv (kb true))]) (
.block 4 (.loop ⟨[1, 3, 7, 8], [], [], [], [], false⟩ (.seq (sq ([
om 45 8]) (
ct 45 (
.skip) (.exit 4))) (
.block 5 (sq ([
oo 8 (.mv (kb false))]) (
sq ([
oo 46 (fa 2 1),
ol 47 false 1 46,
oo 48 (.len 0 (.t 47)),
oo 49 (.mv (ki 0))]) (
.block 6 (.loop ⟨[1, 3, 7, 8, 47, 48, 49], [], [], [], [], false⟩ (sq ([
ob 50 .lss (.t 49) (.t 48)]) (
.seq (ct 50 (
.skip) (.exit 6)) (
.seq (.block 7 (sq ([
om 51 49,
oo 52 (.ia 3 (.t 47) (.t 49)),
ol 53 true 3 52,
oo 10 (.zero (.agg [(.d (.i .i64 0)), (.nil 2), (.nil 10)])),
om 9 51,
oz (.st 3 (.t 10) (.t 53)) 0]) (
.seq (.region true [
om 54 3,
ol 55 true 3 1,
om 56 7,
om 57 9,
ow 58 (.ia 1 (.t 56) (.t 57)) 12,
ow 59 (.ld false 1 (.t 58)) 28,
ol 60 true 3 10,
ow 61 (.call 194 [.t 54, .t 55, .t 59, .t 60] 0 true) 127]) (
ct 61 (
.region false [
oo 8 (.mv (kb true))]) (.skip))))) (
.region false [
ob 62 .add (.t 49) (ki 1),
om 49 62]))))))))))))) (
sq ([
om 63 3,
om 2 63]) (
.ret))))))), [.slot 2]⟩
def n179 : Notes := { anns := [⟨[1, 3, 17, 18], [], [], [], [], false⟩, ⟨[1, 3, 4, 5, 17, 18, 26, 27], [], [], [], [], false⟩, ⟨[1, 3, 7, 8], [], [], [], [], false⟩, ⟨[1, 3, 7, 8, 47, 48, 49], [], [], [], [], false⟩], frz := [0, 0, 0, 1, 0, 0, 1, 0, 0, 0, 0, 0, 0, 0, 0, 0, 0, 1, 0, 0, 0, 0, 0, 0, 0, 0, 0, 0, 0, 0, 1, 0, 0, 0, 0, 0, 0, 0, 1, 1], rgs := [] }
def c180 : CFn := ⟨sq ([
oo 1 (.box (.t 0)),
oo 2 (.mv (kb false))]) (
sq ([
ol 8 true 3 1,
oo 9 (.call 179 [.t 8] 0 true),
om 3 9]) (
.seq (sq ([
om 10 3,
oo 11 (.nils false (.t 10))]) (
ct 11 (
sq ([
oo 2 (.mv (kb false))]) (
.ret)) (.skip))) (
.seq (sq ([
ol 12 true 3 1,
oo 13 (.call 193 [.t 12] 0 true),
oo 14 (.len 0 (.t 13)),
oo 15 (.mv (ki 0))]) (
.block 0 (.loop ⟨[1, 3, 13, 14, 15], [], [], [], [], false⟩ (sq ([
ob 16 .lss (.t 15) (.t 14)]) (
.seq (ct 16 (
.skip) (.exit 0)) (
.seq (.block 1 (sq ([
om 17 15,
oo 18 (.ia 1 (.t 13) (.t 15)),
ol 19 false 1 18,
om 4 17,
om 5 19]) (
.seq (.region true [
om 20 3,
ol 21 true 3 1,
om 22 5,
oo 23 (fa 2 1),
ow 24 (.ld false 1 (.t 23)) 8,
om 25 4,
ow 26 (.ia 3 (.t 24) (.t 25)) 56,
ow 27 (.ld true 3 (.t 26)) 120,
ow 28 (.call 195 [.t 20, .t 21, .t 22, .t 27] 68 false) 255,
ow 6 (.mv (.t 28)) 511]) (
.rangeM [
om 29 6] ⟨[1, 2, 3, 6, 13, 14, 15, 30], [], [], [], [], true⟩ (.t 29) 30 33 2 (.block 3 (sq ([
oo 34 (.ext (.t 33) 0),
oo 7 (.zero (.agg [(.d (.i .i64 0)), (.d (.i .i64 0))])),
oz (.st 2 (.t 7) (.t 34)) 0]) (
.seq (.region true [
om 35 6,
ol 36 true 2 7,
ow 37 (.call 196 [.t 35, .t 36] 4 true) 3,
ol 38 true 2 7,
ow 39 (.lk true [.i, .i] false (.d (.b false)) (.t 37) (.t 38)) 15]) (
ct 39 (
sq ([
oo 2 (.mv (kb true))]) (
.ret)) (.skip))))))))) (
.region false [
ob 40 .add (.t 15) (ki 1),
om 15 40]))))))) (
sq ([
oo 2 (.mv (kb false))]) (
.ret))))), [.slot 2]⟩
def n180 : Notes := { anns := [⟨[1, 3, 13, 14, 15], [], [], [], [], false⟩, ⟨[1, 2, 3, 6, 13, 14, 15, 30], [], [], [], [], true⟩], frz := [0, 0, 0, 0, 0, 0, 0, 0, 0, 0, 0, 0, 0, 0, 0, 0, 0, 0, 0, 0, 0, 0, 0, 0, 0, 0, 64], rgs := [] }
def c181 : CFn := ⟨sq ([
oo 2 (.box (.t 0)),
oo 4 (.mv (ki 0))]) (
.seq (.region true [
ol 5 true 3 2,
om 6 1,
ow 7 (.call 197 [.t 5, .t 6] 0 true) 3,
ow 8 (.fl false 1 1 (.t 7)) 7,
ow 9 (.len 0 (.t 8)) 15,
ol 10 true 3 2,
om 11 1,
ow 12 (.call 197 [.t 10, .t 11] 0 true) 103,
ow 13 (.fl false 2 1 (.t 12)) 231,
ow 14 (.len 0 (.t 13)) 487,
ow 15 (.bin .add (.t 9) (.t 14)) 1023,
ow 4 (.mv (.t 15)) 2047]) (
.ret)), [.slot 4]⟩
def n181 : Notes := { anns := [], frz := [], rgs := [] }
def c182 : CFn := ⟨sq ([
oo 3 (.box (.t 0)),
oo 6 (.mv (kb false))]) (
sq ([
om 7 2,
ob 8 .geq (.t 7) (ki 0),
om 9 8,
og 10 (.mv (.t 2)) 9,
og 11 (.ld true 3 (.t 3)) 9,
og 12 (.mv (.t 1)) 9,
og 13 (.call 197 [.t 11, .t 12] 0 true) 9,
og 14 (.fl false 1 1 (.t 13)) 9,
og 15 (.len 0 (.t 14)) 9,
og 16 (.bin .lss (.t 10) (.t 15)) 9,
oo 17 (.pick (.t 9) (.t 16) (kb false)),
om 6 17]) (
.ret)), [.slot 6]⟩
def n182 : Notes := { anns := [], frz := [], rgs := [] }
def c184 : CFn := ⟨sq ([
oo 1 (.box (.t 0)),
oo 2 (.mv (kb false))]) (
.seq (sq ([
oo 9 (fa 0 1),
ol 10 false 1 9,
oo 11 (.call 198 [.t 10, (ki 8)] 0 true),
oo 12 (.un .not (.t 11)),
om 13 12,
oh 14 (fa 1 1) 13,
oh 15 (.ld false 1 (.t 14)) 13,
oh 16 (.call 199 [.t 15, (ki 8)] 0 true) 13,
oh 17 (.un .not (.t 16)) 13,
oo 18 (.pick (.t 13) (kb true) (.t 17)),
om 19 18,
oh 20 (fa 2 1) 19,
oh 21 (.ld false 1 (.t 20)) 19,
oh 22 (.call 200 [.t 21, (ki 16)] 0 true) 19,
oh 23 (.un .not (.t 22)) 19,
oo 24 (.pick (.t 19) (kb true) (.t 23))]) (
ct 24 (
sq ([
oo 2 (.mv (kb false))]) (
.ret)) (.skip))) (
sq ([
oo 3 (.mv (.k (.nil 1)))]) (
.seq (sq ([
oo 25 (fa 0 1),
ol 26 false 1 25,
oo 27 (.len 0 (.t 26)),
oo 28 (.mv (ki 0))]) (
.block 0 (.loop ⟨[1, 3, 26, 27, 28], [3], [], [], [], true⟩ (sq ([
ob 29 .lss (.t 28) (.t 27)]) (
.seq (ct 29 (
.skip) (.exit 0)) (
.seq (.block 1 (sq ([
oo 30 (.ia 3 (.t 26) (.t 28)),
ol 31 true 3 30,
oo 5 (.zero (.agg [(.d (.s [])), (.d (.s [])), (.d (.b false))])),
oz (.st 3 (.t 5) (.t 31)) 0]) (
.region false [
om 32 3,
oo 33 (fa 0 5),
ol 34 false 1 33,
oo 35 (.bsl 1 1 [(.s [])] [(0, .t 34)]),
oo 36 (.app 1 16 (.t 32) (.t 35)),
om 3 36]))) (
.region false [
ob 37 .add (.t 28) (ki 1),
om 28 37]))))))) (
.seq (sq ([
oo 38 (fa 1 1),
ol 39 false 1 38,
oo 40 (.len 0 (.t 39)),
oo 41 (.mv (ki 0))]) (
.block 2 (.loop ⟨[1, 3, 39, 40, 41], [3], [], [], [], true⟩ (sq ([
ob 42 .lss (.t 41) (.t 40)]) (
.seq (ct 42 (
.skip) (.exit 2)) (
.seq (.block 3 (sq ([
oo 43 (.ia 3 (.t 39) (.t 41)),
ol 44 true 3 43,
oo 7 (.zero (.agg [(.d (.s [])), (.nil 1), (.nil 1)])),
oz (.st 3 (.t 7) (.t 44)) 0]) (
sq ([
om 45 3,
oo 46 (fa 0 7),
ol 47 false 1 46,
oo 48 (.bsl 1 1 [(.s [])] [(0, .t 47)]),
oo 49 (.app 1 16 (.t 45) (.t 48)),
om 3 49]) (
sq ([
oo 50 (fa 1 7),
ol 51 false 1 50,
oo 52 (fa 2 7),
ol 53 false 1 52,
oo 54 (.bsl 1 2 [(.l 1 [])] [(0, .t 51), (1, .t 53)]),
oo 55 (.call 201 [.t 54] 0 true),
om 8 55]) (
sq ([
om 56 8,
oo 57 (.len 0 (.t 56)),
ob 58 .gtr (.t 57) (ki 4),
om 59 58,
oh 60 (.mv (.t 8)) 59,
oh 61 (.call 202 [.t 60] 0 true) 59,
oh 62 (.un .not (.t 61)) 59,
oo 63 (.pick (.t 59) (kb true) (.t 62))]) (
ct 63 (
sq ([
oo 2 (.mv (kb false))]) (
.ret)) (.skip))))))) (
.region false [
ob 64 .add (.t 41) (ki 1),
om 41 64]))))))) (
sq ([
om 65 3,
oo 66 (.call 202 [.t 65] 0 true),
om 67 66,
og 68 (fa 2 1) 67,
og 69 (.ld false 1 (.t 68)) 67,
og 70 (.mkf 204 [] [.t 1] true) 67,
og 71 (.call 203 [.t 69, .t 70] 4 true) 67,
og 72 (.un .not (.t 71)) 67,
oo 73 (.pick (.t 67) (.t 72) (kb false)),
om 2 73]) (
.ret)))))), [.slot 2]⟩
def n184 : Notes := { anns := [⟨[1, 3, 26, 27, 28], [3], [], [], [], true⟩, ⟨[1, 3, 39, 40, 41], [3], [], [], [], true⟩], frz := [0, 0, 0, 0, 0, 0, 0, 0, 0, 0, 0, 0, 0, 0, 0, 0, 0, 0, 0, 0, 0, 0, 0, 0, 0, 0, 0, 0, 0, 0, 0, 0, 0, 0, 0, 0, 0, 0, 0, 0, 0, 0, 0, 0, 0, 0, 0, 0, 0, 0, 0, 0, 0, 0, 0, 0, 0, 0, 0, 0, 0, 0, 0, 0, 0, 0, 0, 0, 0, 0, 0, 0, 0, 0, 0, 1], rgs := [] }
def c185 : CFn := ⟨sq ([
oo 3 (.box (.t 1)),
oo 4 (.mv (kb false))]) (
sq ([
om 5 0,
oo 6 (.mkf 206 [] [.t 3] true),
oo 7 (.call 203 [.t 5, .t 6] 4 true),
oo 8 (.un .not (.t 7)),
om 4 8]) (
.ret)), [.slot 4]⟩
def n185 : Notes := { anns := [], frz := [0, 0, 0, 1], rgs := [] }
def c186 : CFn := ⟨sq ([
oo 2 (.box (.t 0)),
oo 3 (.mv (kb false))]) (
sq ([
ol 4 true 3 1,
ol 5 true 3 2,
oo 6 (.call 187 [.t 4, .t 5] 0 true),
om 3 6]) (
.ret)), [.slot 3]⟩
def n186 : Notes := { anns := [], frz := [], rgs := [] }
def c187 : CFn := ⟨sq ([
oo 2 (.box (.t 0)),
oo 3 (.box (.t 1)),
oo 4 (.mv (kb false))]) (
sq ([
ol 7 true 3 2,
ol 8 true 3 3,
oo 9 (.call 207 [.t 7, .t 8] 4 true),
oo 5 (.zero (.d .nm)),
oz (.st 1 (.t 5) (.t 9)) 0]) (
sq ([
oo 10 (fa 2 3),
ol 11 false 1 10,
oo 12 (.mkf 209 [] [.t 5, .t 3, .t 2] true),
oo 13 (.call 208 [.t 11, .t 12] 4 true),
om 6 13]) (
sq ([
om 14 6,
om 15 14,
og 16 (.ld false 1 (.t 5)) 15,
og 17 (.len 2 (.t 16)) 15,
og 18 (.bin .eql (.t 17) (ki 0)) 15,
oo 19 (.pick (.t 15) (.t 18) (kb false)),
om 4 19]) (
.ret)))), [.slot 4]⟩
def n187 : Notes := { anns := [], frz := [0, 0, 0, 0, 0, 0, 0, 0, 0, 0, 1], rgs := [] }
def c188 : CFn := ⟨sq ([
oo 1 (.box (.t 0)),
oo 2 (.zero (.agg zE))]) (
sq ([
ol 3 true 4 1,
oo 4 (.build zE [(0, 1, (ki 0)), (1, 4, .t 3)]),
oz (.st 8 (.t 2) (.t 4)) 0]) (
.ret)), [.cell 2 true 8]⟩
def n188 : Notes := { anns := [], frz := [], rgs := [] }
def c189 : CFn := ⟨sq ([
oo 4 (.zero (.agg zE))]) (
sq ([
om 5 0,
om 6 1,
oo 7 (.build zE [(0, 1, (ki 1)), (5, 1, .t 5), (6, 1, .t 6)]),
oz (.st 8 (.t 4) (.t 7)) 0]) (
.ret)), [.cell 4 true 8]⟩
def n189 : Notes := { anns := [], frz := [], rgs := [] }
def c190 : CFn := ⟨sq ([
oo 2 (.zero (.agg [(.d (.b false)), (.d (.i .i64 0))]))]) (
sq ([
om 3 0,
oo 4 (.build [(.d (.b false)), (.d (.i .i64 0))] [(0, 1, (kb true)), (1, 1, .t 3)]),
oz (.st 2 (.t 2) (.t 4)) 0]) (
.ret)), [.cell 2 true 2]⟩
def n190 : Notes := { anns := [], frz := [], rgs := [] }
def c191 : CFn := ⟨sq ([
oo 2 (.mv (.k (.nil 2)))]) (
sq ([
oo 6 (.mkm),
om 3 6]) (
.seq (sq ([
om 7 0,
oo 8 (.len 0 (.t 7)),
oo 9 (.mv (ki 0))]) (
.block 0 (.loop ⟨[2, 3, 7, 8, 9], [2], [], [], [], true⟩ (sq ([
ob 10 .lss (.t 9) (.t 8)]) (
.seq (ct 10 (
.skip) (.exit 0)) (
.seq (.block 1 (sq ([
oo 11 (.ia 2 (.t 7) (.t 9)),
ol 12 true 2 11,
oo 5 (.zero (.agg [(.d (.i .i64 0)), (.d (.i .i64 0))])),
oz (.st 2 (.t 5) (.t 12)) 0]) (
.seq (sq ([
om 13 3,
ol 14 true 2 5,
oo 15 (.lk true [.i, .i] false (.d (.b false)) (.t 13) (.t 14)),
oo 16 (.un .not (.t 15))]) (
ct 16 (
.region false [
om 17 2,
ol 18 true 2 5,
oo 19 (.bsl 2 1 [(.i .i64 0), (.i .i64 0)] [(0, .t 18)]),
oo 20 (.app 2 16 (.t 17) (.t 19)),
om 2 20]) (.skip))) (
.region false [
om 21 3,
ol 22 true 2 5,
oz (.mu true [.i, .i] (.t 21) (.t 22) (kb true)) 0])))) (
.region false [
ob 23 .add (.t 9) (ki 1),
om 9 23]))))))) (
sq ([
om 24 2,
om 2 24]) (
.ret)))), [.slot 2]⟩
def n191 : Notes := { anns := [⟨[2, 3, 7, 8, 9], [2], [], [], [], true⟩], frz := [], rgs := [] }
def c192 : CFn := ⟨sq ([
oo 1 (.box (.t 0)),
oo 2 (.mv (.k (.nil 2)))]) (
.seq (sq ([
oo 5 (fa 0 1),
ol 6 false 1 5,
ob 7 .eql (.t 6) (ki 1)]) (
ct 7 (
.region false [
om 8 2,
oo 9 (fa 5 1),
ol 10 false 1 9,
oo 11 (fa 6 1),
ol 12 false 1 11,
oo 13 (.build [(.d (.i .i64 0)), (.d (.i .i64 0))] [(0, 1, .t 10), (1, 1, .t 12)]),
oo 14 (.bsl 2 1 [(.i .i64 0), (.i .i64 0)] [(0, .t 13)]),
oo 15 (.app 2 16 (.t 8) (.t 14)),
om 2 15]) (.skip))) (
.seq (sq ([
oo 16 (fa 7 1),
ol 17 false 1 16,
oo 18 (.len 0 (.t 17)),
oo 19 (.mv (ki 0))]) (
.block 0 (.loop ⟨[2, 17, 18, 19], [2], [], [], [], true⟩ (sq ([
ob 20 .lss (.t 19) (.t 18)]) (
.seq (ct 20 (
.skip) (.exit 0)) (
.seq (.block 1 (sq ([
oo 21 (.ia 8 (.t 17) (.t 19)),
ol 22 true 8 21,
oo 4 (.zero (.agg zE)),
oz (.st 8 (.t 4) (.t 22)) 0]) (
.region false [
om 23 2,
ol 24 true 8 4,
oo 25 (.call 192 [.t 24] 0 true),
oo 26 (.app 2 16 (.t 23) (.t 25)),
om 2 26]))) (
.region false [
ob 27 .add (.t 19) (ki 1),
om 19 27]))))))) (
sq ([
om 28 2,
om 2 28]) (
.ret)))), [.slot 2]⟩
def n192 : Notes := { anns := [⟨[2, 17, 18, 19], [2], [], [], [], true⟩], frz := [], rgs := [] }
def c193 : CFn := ⟨sq ([
oo 1 (.box (.t 0)),
oo 2 (.mv (.k (.nil 1)))]) (
.seq (sq ([
oo 4 (fa 2 1),
ol 5 false 1 4,
oo 6 (.len 0 (.t 5)),
oo 7 (.mv (ki 0))]) (
.block 0 (.loop ⟨[1, 2, 6, 7], [2], [], [], [], true⟩ (sq ([
ob 8 .lss (.t 7) (.t 6)]) (
.seq (ct 8 (
.skip) (.exit 0)) (
.seq (.block 1 (sq ([
om 9 7,
om 3 9]) (
.region false [
om 10 2,
ol 11 true 3 1,
om 12 3,
oo 13 (.call 172 [.t 11, .t 12] 0 true),
oo 14 (.bsl 1 1 [(.l 4 [])] [(0, .t 13)]),
oo 15 (.app 1 24 (.t 10) (.t 14)),
om 2 15]))) (
.region false [
ob 16 .add (.t 7) (ki 1),
om 7 16]))))))) (
sq ([
om 17 2,
om 2 17]) (
.ret))), [.slot 2]⟩
def n193 : Notes := { anns := [⟨[1, 2, 6, 7], [2], [], [], [], true⟩], frz := [], rgs := [] }
def c194 : CFn := ⟨sq ([
oo 5 (.box (.t 1)),
oo 7 (.box (.t 3)),
oo 8 (.mv (kb false))]) (
sq ([
om 13 0,
ol 14 true 3 5,
om 15 2,
ol 16 true 3 7,
oo 17 (.call 195 [.t 13, .t 14, .t 15, .t 16] 68 false),
om 9 17]) (
.seq (sq ([
ol 18 true 3 5,
oo 19 (fa 0 7),
ol 20 false 1 19,
oo 21 (.lend 181 [.t 18, .t 20]),
oo 22 (.mv (ki 0))]) (
.block 0 (.loop ⟨[0, 5, 7, 8, 9, 21, 22], [], [], [], [], false⟩ (sq ([
ob 23 .lss (.t 22) (.t 21)]) (
.seq (ct 23 (
.skip) (.exit 0)) (
.seq (.block 1 (sq ([
om 24 22,
om 10 24]) (
.seq (sq ([
ol 25 true 3 5,
oo 26 (fa 0 7),
ol 27 false 1 26,
om 28 10,
oo 29 (.lend 182 [.t 25, .t 27, .t 28]),
oo 30 (.un .not (.t 29))]) (
ct 30 (
.exit 1) (.skip))) (
sq ([
om 31 9,
om 32 10,
oo 33 (.build [(.d (.i .i64 0)), (.d (.i .i64 0))] [(0, 1, (ki 0)), (1, 1, .t 32)]),
oo 34 (.call 196 [.t 31, .t 33] 68 false),
om 11 34]) (
sq ([
ol 35 true 3 5,
oo 36 (fa 0 7),
ol 37 false 1 36,
oo 38 (.lend 181 [.t 35, .t 37]),
oo 39 (.mv (ki 0))]) (
.block 2 (.loop ⟨[0, 5, 7, 8, 9, 10, 11, 21, 22, 38, 39], [], [], [], [], false⟩ (sq ([
ob 40 .lss (.t 39) (.t 38)]) (
.seq (ct 40 (
.skip) (.exit 2)) (
.seq (.block 3 (sq ([
om 41 39,
om 12 41]) (
sq ([
ol 42 true 3 5,
oo 43 (fa 0 7),
ol 44 false 1 43,
om 45 12,
oo 46 (.lend 182 [.t 42, .t 44, .t 45]),
oo 47 (.un .not (.t 46)),
om 48 47,
og 49 (.mv (.t 11)) 48,
og 50 (.mv (.t 12)) 48,
og 51 (.build [(.d (.i .i64 0)), (.d (.i .i64 0))] [(0, 1, (ki 0)), (1, 1, .t 50)]) 48,
og 52 (.lk true [.i, .i] false (.d (.b false)) (.t 49) (.t 51)) 48,
oo 53 (.pick (.t 48) (.t 52) (kb false)),
om 54 53,
og 55 (.mv (.t 0)) 54,
og 56 (fa 0 7) 54,
og 57 (.ld false 1 (.t 56)) 54,
og 58 (.ia 1 (.t 55) (.t 57)) 54,
og 59 (.ld false 1 (.t 58)) 54,
og 60 (.mv (.t 10)) 54,
og 61 (.ia 1 (.t 59) (.t 60)) 54,
og 62 (.ld false 1 (.t 61)) 54,
og 63 (.mv (.t 12)) 54,
og 64 (.ia 1 (.t 62) (.t 63)) 54,
og 65 (.ld false 1 (.t 64)) 54,
og 66 (.un .not (.t 65)) 54,
oo 67 (.pick (.t 54) (.t 66) (kb false))]) (
ct 67 (
.region false [
om 68 0,
oo 69 (fa 0 7),
ol 70 false 1 69,
oo 71 (.ia 1 (.t 68) (.t 70)),
ol 72 false 1 71,
om 73 10,
oo 74 (.ia 1 (.t 72) (.t 73)),
ol 75 false 1 74,
om 76 12,
oo 77 (.ia 1 (.t 75) (.t 76)),
oz (.st 1 (.t 77) (kb true)) 0,
oo 8 (.mv (kb true))]) (.skip))))) (
.region false [
ob 78 .add (.t 39) (ki 1),
om 39 78]))))))))))) (
.region false [
ob 79 .add (.t 22) (ki 1),
om 22 79]))))))) (
sq ([
om 80 8,
om 8 80]) (
.ret)))), [.slot 8]⟩
def n194 : Notes := { anns := [⟨[0, 5, 7, 8, 9, 21, 22], [], [], [], [], false⟩, ⟨[0, 5, 7, 8, 9, 10, 11, 21, 22, 38, 39], [], [], [], [], false⟩], frz := [0, 0, 0, 0, 0, 0, 0, 64, 0, 0, 0, 0, 1, 0, 0, 0, 0, 0, 0, 0, 0, 1, 0, 0, 0, 0, 64, 0, 0, 0, 0, 1, 0, 0, 0, 0, 0, 0, 0, 0, 1], rgs := [] }
def c195 : CFn := ⟨sq ([
oo 5 (.box (.t 1)),
oo 7 (.box (.t 3)),
oo 8 (.mv (.k (.d .nm)))]) (
sq ([
oo 18 (.mkm),
om 9 18]) (
.seq (sq ([
om 19 2,
oo 20 (.len 0 (.t 19)),
oo 21 (.mv (ki 0))]) (
.block 0 (.loop ⟨[0, 7, 9, 19, 20, 21], [], [], [], [], false⟩ (sq ([
ob 22 .lss (.t 21) (.t 20)]) (
.seq (ct 22 (
.skip) (.exit 0)) (
.seq (.block 1 (sq ([
oo 23 (.ia 4 (.t 19) (.t 21)),
ol 24 true 4 23,
oo 11 (.zero (.agg [(.d (.i .i64 0)), (.d (.i .i64 0)), (.d (.i .i64 0)), (.d (.i .i64 0))])),
oz (.st 4 (.t 11) (.t 24)) 0]) (
.region false [
om 25 9,
oo 26 (fa 0 11),
ol 27 true 2 26,
oo 28 (fa 2 11),
ol 29 true 2 28,
oo 30 (.call 215 [.t 25, .t 27, .t 29] 4 true)]))) (
.region false [
ob 31 .add (.t 21) (ki 1),
om 21 31]))))))) (
.seq (sq ([
oo 32 (fa 1 7),
ol 33 false 1 32,
oo 34 (.len 0 (.t 33)),
oo 35 (.mv (ki 0))]) (
.block 2 (.loop ⟨[0, 9, 33, 34, 35], [], [], [], [], false⟩ (sq ([
ob 36 .lss (.t 35) (.t 34)]) (
.seq (ct 36 (
.skip) (.exit 2)) (
.seq (.block 3 (sq ([
om 37 35,
oo 38 (.ia 2 (.t 33) (.t 35)),
ol 39 true 2 38,
oo 13 (.zero (.agg [(.d (.b false)), (.d (.i .i64 0))])),
om 12 37,
oz (.st 2 (.t 13) (.t 39)) 0]) (
.seq (sq ([
oo 40 (fa 0 13),
ol 41 false 1 40]) (
ct 41 (
.exit 3) (.skip))) (
sq ([
om 42 0,
oo 43 (fa 1 13),
ol 44 false 1 43,
oo 45 (.ia 1 (.t 42) (.t 44)),
ol 46 false 1 45,
oo 47 (.len 0 (.t 46)),
oo 48 (.mv (ki 0))]) (
.block 4 (.loop ⟨[0, 9, 12, 33, 34, 35, 46, 47, 48], [], [], [], [], false⟩ (sq ([
ob 49 .lss (.t 48) (.t 47)]) (
.seq (ct 49 (
.skip) (.exit 4)) (
.seq (.block 5 (sq ([
om 50 48,
oo 51 (.ia 1 (.t 46) (.t 48)),
ol 52 false 1 51,
om 14 50,
om 15 52]) (
sq ([
om 53 15,
oo 54 (.len 0 (.t 53)),
oo 55 (.mv (ki 0))]) (
.block 6 (.loop ⟨[0, 9, 12, 14, 33, 34, 35, 46, 47, 48, 53, 54, 55], [], [], [], [], false⟩ (sq ([
ob 56 .lss (.t 55) (.t 54)]) (
.seq (ct 56 (
.skip) (.exit 6)) (
.seq (.block 7 (sq ([
om 57 55,
oo 58 (.ia 1 (.t 53) (.t 55)),
ol 59 false 1 58,
om 16 57,
om 17 59]) (
sq ([
om 60 17]) (
ct 60 (
.region false [
om 61 9,
om 62 12,
ob 63 .add (.t 62) (ki 1),
om 64 14,
oo 65 (.build [(.d (.i .i64 0)), (.d (.i .i64 0))] [(0, 1, .t 63), (1, 1, .t 64)]),
om 66 12,
ob 67 .add (.t 66) (ki 1),
om 68 16,
oo 69 (.build [(.d (.i .i64 0)), (.d (.i .i64 0))] [(0, 1, .t 67), (1, 1, .t 68)]),
oo 70 (.call 215 [.t 61, .t 65, .t 69] 4 true)]) (.skip))))) (
.region false [
ob 71 .add (.t 55) (ki 1),
om 55 71]))))))))) (
.region false [
ob 72 .add (.t 48) (ki 1),
om 48 72])))))))))) (
.region false [
ob 73 .add (.t 35) (ki 1),
om 35 73]))))))) (
sq ([
om 74 9,
om 8 74]) (
.ret))))), [.slot 8]⟩
def n195 : Notes := { anns := [⟨[0, 7, 9, 19, 20, 21], [], [], [], [], false⟩, ⟨[0, 9, 33, 34, 35], [], [], [], [], false⟩, ⟨[0, 9, 12, 33, 34, 35, 46, 47, 48], [], [], [], [], false⟩, ⟨[0, 9, 12, 14, 33, 34, 35, 46, 47, 48, 53, 54, 55], [], [], [], [], false⟩], frz := [], rgs := [] }
def c197 : CFn := ⟨sq ([
oo 2 (.box (.t 0)),
oo 4 (.zero (.agg [(.d (.s [])), (.nil 1), (.nil 1)]))]) (
.seq (sq ([
om 5 1,
ob 6 .geq (.t 5) (ki 0),
om 7 6,
og 8 (.mv (.t 1)) 7,
og 9 (fa 1 2) 7,
og 10 (.ld false 1 (.t 9)) 7,
og 11 (.len 0 (.t 10)) 7,
og 12 (.bin .lss (.t 8) (.t 11)) 7,
oo 13 (.pick (.t 7) (.t 12) (kb false))]) (
ct 13 (
.region false [
oo 14 (fa 1 2),
ol 15 false 1 14,
om 16 1,
oo 17 (.ia 3 (.t 15) (.t 16)),
ol 18 true 3 17,
oz (.st 3 (.t 4) (.t 18)) 0]) (.skip))) (
sq ([
ol 19 true 3 4,
oz (.st 3 (.t 4) (.t 19)) 0]) (
.ret))), [.cell 4 true 3]⟩
def n197 : Notes := { anns := [], frz := [], rgs := [] }
def c198 : CFn := ⟨sq ([
oo 4 (.mv (kb false))]) (
sq ([
om 5 0,
oo 6 (.len 0 (.t 5)),
ob 7 .geq (.t 6) (ki 1),
om 8 7,
og 9 (.mv (.t 0)) 8,
og 10 (.len 0 (.t 9)) 8,
og 11 (.mv (.t 1)) 8,
og 12 (.bin .leq (.t 10) (.t 11)) 8,
oo 13 (.pick (.t 8) (.t 12) (kb false)),
om 4 13]) (
.ret)), [.slot 4]⟩
def n198 : Notes := { anns := [], frz := [], rgs := [] }
def c199 : CFn := ⟨sq ([
oo 4 (.mv (kb false))]) (
sq ([
om 5 0,
oo 6 (.len 0 (.t 5)),
ob 7 .geq (.t 6) (ki 1),
om 8 7,
og 9 (.mv (.t 0)) 8,
og 10 (.len 0 (.t 9)) 8,
og 11 (.mv (.t 1)) 8,
og 12 (.bin .leq (.t 10) (.t 11)) 8,
oo 13 (.pick (.t 8) (.t 12) (kb false)),
om 4 13]) (
.ret)), [.slot 4]⟩
def n199 : Notes := { anns := [], frz := [], rgs := [] }
def c200 : CFn := ⟨sq ([
oo 4 (.mv (kb false))]) (
sq ([
om 5 0,
oo 6 (.len 0 (.t 5)),
ob 7 .geq (.t 6) (ki 1),
om 8 7,
og 9 (.mv (.t 0)) 8,
og 10 (.len 0 (.t 9)) 8,
og 11 (.mv (.t 1)) 8,
og 12 (.bin .leq (.t 10) (.t 11)) 8,
oo 13 (.pick (.t 8) (.t 12) (kb false)),
om 4 13]) (
.ret)), [.slot 4]⟩
def n200 : Notes := { anns := [], frz := [], rgs := [] }
def c201 : CFn := ⟨sq ([
oo 2 (.mv (.k (.nil 1)))]) (
sq ([
oo 3 (.mv (ki 0))]) (
.seq (sq ([
om 9 0,
oo 10 (.len 0 (.t 9)),
oo 11 (.mv (ki 0))]) (
.block 0 (.loop ⟨[0, 3, 9, 10, 11], [], [], [], [], false⟩ (sq ([
ob 12 .lss (.t 11) (.t 10)]) (
.seq (ct 12 (
.skip) (.exit 0)) (
.seq (.block 1 (sq ([
oo 13 (.ia 1 (.t 9) (.t 11)),
ol 14 false 1 13,
om 5 14]) (
sq ([
om 15 3,
om 16 5,
oo 17 (.len 0 (.t 16)),
ob 18 .add (.t 15) (.t 17),
om 3 18]) (
sq ([
om 19 3,
ob 20 .lss (.t 19) (ki 0)]) (
ct 20 (
.region false [
oo 21 (.die),
oz (.die) 0]) (.skip)))))) (
.region false [
ob 22 .add (.t 11) (ki 1),
om 11 22]))))))) (
sq ([
om 23 3,
oo 24 (.callr 216 [(.k (.nil 1)), (.t 23)] 4),
om 6 24]) (
.seq (sq ([
om 25 0,
oo 26 (.len 0 (.t 25)),
oo 27 (.mv (ki 0))]) (
.block 2 (.loop ⟨[6, 25, 26, 27], [], [], [], [], false⟩ (sq ([
ob 28 .lss (.t 27) (.t 26)]) (
.seq (ct 28 (
.skip) (.exit 2)) (
.seq (.block 3 (sq ([
oo 29 (.ia 1 (.t 25) (.t 27)),
ol 30 false 1 29,
om 8 30]) (
.region false [
om 31 6,
om 32 8,
oo 33 (.apa 1 16 (.t 31) (.t 32)),
om 6 33]))) (
.region false [
ob 34 .add (.t 27) (ki 1),
om 27 34]))))))) (
sq ([
om 35 6,
om 2 35]) (
.ret)))))), [.slot 2]⟩
def n201 : Notes := { anns := [⟨[0, 3, 9, 10, 11], [], [], [], [], false⟩, ⟨[6, 25, 26, 27], [], [], [], [], false⟩], frz := [0, 0, 0, 0, 0, 0, 0, 0, 0, 0, 0, 0, 0, 0, 0, 0, 0, 0, 0, 0, 0, 3, 0, 0, 0, 0, 0, 0, 0, 0, 0, 0, 1], rgs := [] }
def c202 : CFn := ⟨sq ([
oo 2 (.mv (kb false))]) (
sq ([
om 3 0,
oo 4 (.call 217 [.t 3] 0 true),
om 5 4,
og 6 (.mv (.t 0)) 5,
og 7 (.call 218 [.t 6, (.k (.d (.f 219 [] [])))] 4 true) 5,
og 8 (.un .not (.t 7)) 5,
oo 9 (.pick (.t 5) (.t 8) (kb false)),
om 2 9]) (
.ret)), [.slot 2]⟩
def n202 : Notes := { anns := [], frz := [], rgs := [] }
def c203 : CFn := ⟨sq ([
oo 4 (.mv (kb false))]) (
sq ([
om 5 0,
om 6 1,
oo 7 (.call 221 [.t 5, .t 6] 4 true),
ob 8 .geq (.t 7) (ki 0),
om 4 8]) (
.ret)), [.slot 4]⟩
def n203 : Notes := { anns := [], frz := [], rgs := [] }
def c204 : CFn := ⟨sq ([
oo 2 (.box (.t 0)),
oo 3 (.mv (kb false))]) (
sq ([
ol 4 true 3 1,
ol 5 true 3 2,
oo 6 (.call 205 [.t 4, .t 5] 0 true),
oo 7 (.un .not (.t 6)),
om 3 7]) (
.ret)), [.slot 3]⟩
def n204 : Notes := { anns := [], frz := [], rgs := [] }
def c205 : CFn := ⟨sq ([
oo 2 (.box (.t 0)),
oo 3 (.box (.t 1)),
oo 4 (.mv (kb false))]) (
sq ([
oo 5 (fa 0 3),
ol 6 false 1 5,
ob 7 .geq (.t 6) (ki 0),
om 8 7,
og 9 (fa 0 3) 8,
og 10 (.ld false 1 (.t 9)) 8,
og 11 (fa 1 2) 8,
og 12 (.ld false 1 (.t 11)) 8,
og 13 (.len 0 (.t 12)) 8,
og 14 (.bin .lss (.t 10) (.t 13)) 8,
oo 15 (.pick (.t 8) (.t 14) (kb false)),
om 16 15,
og 17 (fa 1 3) 16,
og 18 (.ld false 1 (.t 17)) 16,
og 19 (.len 0 (.t 18)) 16,
og 20 (.bin .leq (.t 19) (ki 5)) 16,
oo 21 (.pick (.t 16) (.t 20) (kb false)),
om 22 21,
og 23 (fa 1 3) 22,
og 24 (.ld false 1 (.t 23)) 22,
og 25 (.mkf 223 [] [.t 2] true) 22,
og 26 (.call 222 [.t 24, .t 25] 4 true) 22,
og 27 (.un .not (.t 26)) 22,
oo 28 (.pick (.t 22) (.t 27) (kb false)),
om 4 28]) (
.ret)), [.slot 4]⟩
def n205 : Notes := { anns := [], frz := [0, 0, 0, 0, 0, 0, 0, 0, 0, 0, 0, 0, 0, 0, 0, 0, 0, 0, 0, 0, 0, 0, 0, 1], rgs := [] }
def c206 : CFn := ⟨sq ([
oo 2 (.box (.t 0)),
oo 3 (.mv (kb false))]) (
sq ([
ol 4 false 1 1,
ol 5 true 3 2,
oo 6 (.callv (.t 4) [.t 5] 4 true),
oo 7 (.un .not (.t 6)),
om 3 7]) (
.ret)), [.slot 3]⟩
def n206 : Notes := { anns := [], frz := [], rgs := [] }
def c207 : CFn := ⟨sq ([
oo 2 (.box (.t 0)),
oo 3 (.box (.t 1)),
oo 4 (.mv (.k (.d .nm)))]) (
sq ([
oo 13 (.mkm),
om 5 13]) (
.seq (sq ([
oo 14 (fa 1 3),
ol 15 false 1 14,
oo 16 (.len 0 (.t 15)),
ob 17 .add (.t 16) (ki 1),
oo 18 (.mv (ki 0))]) (
.block 0 (.loop ⟨[2, 3, 5, 17, 18], [], [], [], [], true⟩ (sq ([
ob 19 .lss (.t 18) (.t 17)]) (
.seq (ct 19 (
.skip) (.exit 0)) (
.seq (.block 1 (sq ([
om 20 18,
om 6 20]) (
sq ([
ol 22 true 3 3,
om 23 6,
oo 24 (.call 225 [.t 22, .t 23] 0 true),
om 21 24,
oo 25 (.ext (.t 21) 0),
oo 26 (.ext (.t 21) 1),
om 7 25,
om 8 26]) (
sq ([
ol 27 true 3 2,
om 28 7,
oo 29 (.call 181 [.t 27, .t 28] 0 true),
oo 30 (.mv (ki 0))]) (
.block 2 (.loop ⟨[2, 3, 5, 6, 17, 18, 29, 30], [], [], [], [], true⟩ (sq ([
ob 31 .lss (.t 30) (.t 29)]) (
.seq (ct 31 (
.skip) (.exit 2)) (
.seq (.block 3 (sq ([
om 32 30,
om 9 32]) (
sq ([
om 33 6,
om 34 9,
oo 35 (.build [(.d (.i .i64 0)), (.d (.i .i64 0))] [(0, 1, .t 33), (1, 1, .t 34)]),
oo 10 (.zero (.agg [(.d (.i .i64 0)), (.d (.i .i64 0))])),
oz (.st 2 (.t 10) (.t 35)) 0]) (
sq ([
ol 37 true 3 3,
om 38 6,
oo 39 (.call 225 [.t 37, .t 38] 0 true),
om 36 39,
oo 40 (.ext (.t 36) 0),
oo 41 (.ext (.t 36) 1),
om 11 40,
om 12 41]) (
sq ([
om 42 12,
om 43 42,
og 44 (.ld true 3 (.t 2)) 43,
og 45 (.ld true 3 (.t 3)) 43,
og 46 (.ld true 2 (.t 10)) 43,
og 47 (.call 214 [.t 44, .t 45, .t 46] 0 true) 43,
og 48 (.un .not (.t 47)) 43,
oo 49 (.pick (.t 43) (.t 48) (kb false))]) (
ct 49 (
.region false [
om 50 5,
ol 51 true 2 10,
oz (.mu true [.i, .i] (.t 50) (.t 51) (kb true)) 0]) (.skip))))))) (
.region false [
ob 52 .add (.t 30) (ki 1),
om 30 52])))))))))) (
.region false [
ob 53 .add (.t 18) (ki 1),
om 18 53]))))))) (
sq ([
om 54 5,
om 4 54]) (
.ret)))), [.slot 4]⟩
def n207 : Notes := { anns := [⟨[2, 3, 5, 17, 18], [], [], [], [], true⟩, ⟨[2, 3, 5, 6, 17, 18, 29, 30], [], [], [], [], true⟩], frz := [], rgs := [] }
def c208 : CFn := ⟨sq ([
oo 3 (.box (.t 1)),
oo 4 (.mv (kb false))]) (
sq ([
om 5 0,
oo 6 (.mkf 227 [] [.t 3] true),
oo 7 (.call 226 [.t 5, .t 6] 4 true),
oo 8 (.un .not (.t 7)),
om 4 8]) (
.ret)), [.slot 4]⟩
def n208 : Notes := { anns := [], frz := [0, 0, 0, 1], rgs := [] }
def c209 : CFn := ⟨sq ([
oo 4 (.box (.t 0)),
oo 5 (.mv (kb false))]) (
sq ([
oo 8 (fa 0 4),
ol 9 false 1 8,
oo 10 (fa 1 4),
ol 11 false 1 10,
oo 12 (.build [(.d (.i .i64 0)), (.d (.i .i64 0))] [(0, 1, .t 9), (1, 1, .t 11)]),
oo 6 (.zero (.agg [(.d (.i .i64 0)), (.d (.i .i64 0))])),
oz (.st 2 (.t 6) (.t 12)) 0]) (
sq ([
ol 13 false 1 1,
ol 14 true 2 6,
oo 15 (.lk true [.i, .i] false (.d (.b false)) (.t 13) (.t 14)),
om 7 15]) (
sq ([
ol 16 false 1 1,
ol 17 true 2 6,
oz (.del true [.i, .i] (.t 16) (.t 17)) 0]) (
sq ([
om 18 7,
om 19 18,
og 20 (fa 2 4) 19,
og 21 (.ld true 8 (.t 20)) 19,
og 22 (.call 210 [.t 21] 0 true) 19,
oo 23 (.pick (.t 19) (.t 22) (kb false)),
om 24 23,
og 25 (.ld true 3 (.t 2)) 24,
og 26 (fa 2 4) 24,
og 27 (.ld true 8 (.t 26)) 24,
og 28 (.call 211 [.t 25, .t 27] 0 true) 24,
oo 29 (.pick (.t 24) (.t 28) (kb false)),
om 30 29,
og 31 (fa 2 4) 30,
og 32 (.ld true 8 (.t 31)) 30,
og 33 (.call 192 [.t 32] 0 true) 30,
og 34 (.mkf 213 [] [.t 3, .t 2] true) 30,
og 35 (.call 212 [.t 33, .t 34] 4 true) 30,
oo 36 (.pick (.t 30) (.t 35) (kb false)),
om 5 36]) (
.ret))))), [.slot 5]⟩
def n209 : Notes := { anns := [], frz := [0, 0, 0, 0, 0, 0, 0, 0, 0, 0, 0, 0, 0, 0, 0, 0, 0, 0, 0, 0, 0, 0, 0, 0, 0, 0, 0, 0, 0, 0, 0, 0, 1], rgs := [] }
def c210 : CFn := ⟨sq ([
oo 1 (.box (.t 0)),
oo 2 (.mv (kb false))]) (
sq ([
ol 3 true 8 1,
oo 4 (.call 228 [.t 3, (ki 12)] 0 true),
om 2 4]) (
.ret)), [.slot 2]⟩
def n210 : Notes := { anns := [], frz := [], rgs := [] }
def c211 : CFn := ⟨sq ([
oo 2 (.box (.t 0)),
oo 3 (.box (.t 1)),
oo 4 (.mv (kb false))]) (
.seq (sq ([
oo 5 (fa 0 3),
ol 6 false 1 5,
ob 7 .eql (.t 6) (ki 2),
om 8 7,
oh 9 (fa 0 3) 8,
oh 10 (.ld false 1 (.t 9)) 8,
oh 11 (.bin .eql (.t 10) (ki 3)) 8,
oo 12 (.pick (.t 8) (kb true) (.t 11)),
om 13 12,
og 14 (fa 5 3) 13,
og 15 (.ld false 1 (.t 14)) 13,
og 16 (.bin .lss (.t 15) (ki 1)) 13,
og 17 (.mv (.t 16)) 13,
oh 18 (fa 5 3) 17,
oh 19 (.ld false 1 (.t 18)) 17,
oh 20 (fa 1 2) 17,
oh 21 (.ld false 1 (.t 20)) 17,
oh 22 (.len 0 (.t 21)) 17,
oh 23 (.bin .gtr (.t 19) (.t 22)) 17,
og 24 (.pick (.t 17) (kb true) (.t 23)) 13,
og 25 (.mv (.t 24)) 13,
oh 26 (fa 1 2) 25,
oh 27 (.ld false 1 (.t 26)) 25,
oh 28 (fa 5 3) 25,
oh 29 (.ld false 1 (.t 28)) 25,
oh 30 (.bin .sub (.t 29) (ki 1)) 25,
oh 31 (.ia 2 (.t 27) (.t 30)) 25,
oh 32 (fa 0 31) 25,
oh 33 (.ld false 1 (.t 32)) 25,
oh 34 (.un .not (.t 33)) 25,
og 35 (.pick (.t 25) (kb true) (.t 34)) 13,
oo 36 (.pick (.t 13) (.t 35) (kb false))]) (
ct 36 (
sq ([
oo 4 (.mv (kb false))]) (
.ret)) (.skip))) (
sq ([
oo 37 (fa 7 3),
ol 38 false 1 37,
oo 39 (.mkf 230 [] [.t 2] true),
oo 40 (.call 229 [.t 38, .t 39] 4 true),
oo 41 (.un .not (.t 40)),
om 4 41]) (
.ret))), [.slot 4]⟩
def n211 : Notes := { anns := [], frz := [0, 0, 0, 0, 0, 0, 0, 0, 0, 0, 0, 0, 0, 0, 0, 0, 0, 0, 0, 0, 0, 0, 0, 0, 0, 0, 0, 0, 0, 0, 0, 0, 0, 0, 0, 0, 0, 0, 1], rgs := [] }
def c212 : CFn := ⟨sq ([
oo 3 (.box (.t 1)),
oo 4 (.mv (kb false))]) (
sq ([
om 5 0,
oo 6 (.mkf 232 [] [.t 3] true),
oo 7 (.call 231 [.t 5, .t 6] 4 true),
oo 8 (.un .not (.t 7)),
om 4 8]) (
.ret)), [.slot 4]⟩
def n212 : Notes := { anns := [], frz := [0, 0, 0, 1], rgs := [] }
def c213 : CFn := ⟨sq ([
oo 3 (.box (.t 0)),
oo 4 (.mv (kb false))]) (
sq ([
ol 5 true 3 1,
ol 6 true 3 2,
ol 7 true 2 3,
oo 8 (.call 214 [.t 5, .t 6, .t 7] 0 true),
om 4 8]) (
.ret)), [.slot 4]⟩
def n213 : Notes := { anns := [], frz := [], rgs := [] }
def c214 : CFn := ⟨sq ([
oo 3 (.box (.t 0)),
oo 4 (.box (.t 1)),
oo 5 (.box (.t 2)),
oo 6 (.mv (kb false))]) (
sq ([
ol 10 true 3 4,
oo 11 (.iaa 2 1 (.t 5) (ki 0)),
ol 12 false 1 11,
oo 13 (.call 225 [.t 10, .t 12] 0 true),
om 9 13,
oo 14 (.ext (.t 9) 0),
oo 15 (.ext (.t 9) 1),
om 7 14,
om 8 15]) (
.seq (.region true [
om 16 8,
ow 17 (.mv (.t 16)) 1,
⟨some 18, .iaa 2 1 (.t 5) (ki 1), (some (17, true)), 3⟩,
⟨some 19, .ld false 1 (.t 18), (some (17, true)), 7⟩,
⟨some 20, .bin .geq (.t 19) (ki 0), (some (17, true)), 15⟩,
ow 21 (.pick (.t 17) (.t 20) (kb false)) 31,
ow 22 (.mv (.t 21)) 63,
⟨some 23, .iaa 2 1 (.t 5) (ki 1), (some (22, true)), 127⟩,
⟨some 24, .ld false 1 (.t 23), (some (22, true)), 255⟩,
⟨some 25, .ld true 3 (.t 3), (some (22, true)), 127⟩,
⟨some 26, .mv (.t 7), (some (22, true)), 127⟩,
⟨some 27, .call 181 [.t 25, .t 26] 0 true, (some (22, true)), 1663⟩,
⟨some 28, .bin .lss (.t 24) (.t 27), (some (22, true)), 4095⟩,
ow 29 (.pick (.t 22) (.t 28) (kb false)) 8191,
ow 30 (.mv (.t 29)) 16383,
⟨some 31, .ld true 3 (.t 3), (some (30, true)), 32767⟩,
⟨some 32, .mv (.t 7), (some (30, true)), 32767⟩,
⟨some 33, .iaa 2 1 (.t 5) (ki 1), (some (30, true)), 32767⟩,
⟨some 34, .ld false 1 (.t 33), (some (30, true)), 163839⟩,
⟨some 35, .call 182 [.t 31, .t 32, .t 34] 0 true, (some (30, true)), 524287⟩,
⟨some 36, .iaa 2 1 (.t 5) (ki 0), (some (30, true)), 32767⟩,
⟨some 37, .ld false 1 (.t 36), (some (30, true)), 1081343⟩,
⟨some 38, .bin .eql (.t 37) (ki 0), (some (30, true)), 3178495⟩,
⟨some 39, .eqb false (.t 35) (.t 38), (some (30, true)), 8388607⟩,
ow 40 (.pick (.t 30) (.t 39) (kb false)) 16777215,
ow 6 (.mv (.t 40)) 33554431]) (
.ret))), [.slot 6]⟩
def n214 : Notes := { anns := [], frz := [], rgs := [] }
def c215 : CFn := ⟨sq ([
oo 4 (.box (.t 1)),
oo 5 (.box (.t 2)),
oo 6 (.mv (kb false))]) (
.seq (sq ([
om 8 0,
ol 9 true 2 4,
oo 10 (.lk true [.i, .i] false (.d .nm) (.t 8) (.t 9)),
oo 11 (.nilm false (.t 10))]) (
ct 11 (
.region false [
om 12 0,
ol 13 true 2 4,
oo 14 (.mkm),
oz (.mu true [.i, .i] (.t 12) (.t 13) (.t 14)) 0]) (.skip))) (
.seq (.region true [
om 15 0,
ol 16 true 2 4,
ow 17 (.lk true [.i, .i] false (.d .nm) (.t 15) (.t 16)) 3,
ol 18 true 2 5,
ow 19 (.lk true [.i, .i] false (.d (.b false)) (.t 17) (.t 18)) 15,
ow 7 (.mv (.t 19)) 31]) (
.seq (.region true [
om 20 0,
ol 21 true 2 4,
ow 22 (.lk true [.i, .i] false (.d .nm) (.t 20) (.t 21)) 3,
ol 23 true 2 5,
oz (.mu true [.i, .i] (.t 22) (.t 23) (kb true)) 15]) (
sq ([
om 24 7,
oo 25 (.un .not (.t 24)),
om 6 25]) (
.ret))))), [.slot 6]⟩
def n215 : Notes := { anns := [], frz := [], rgs := [] }
def c216 : CFn := ⟨sq ([
oo 4 (.mv (.k (.nil 1)))]) (
.seq (sq ([
om 5 1,
ob 6 .lss (.t 5) (ki 0)]) (
ct 6 (
.region false [
oo 7 (.die),
oz (.die) 0]) (.skip))) (
.seq (sq ([
om 8 1,
om 9 0,
oo 10 (.capn (.t 9)),
om 11 0,
oo 12 (.len 0 (.t 11)),
ob 13 .sub (.t 10) (.t 12),
ob 14 .sub (.t 8) (.t 13),
om 1 14]) (
sq ([
om 15 1,
ob 16 .gtr (.t 15) (ki 0)]) (
ct 16 (
.region false [
om 17 0,
om 18 0,
oo 19 (.capn (.t 18)),
oo 20 (.slc 1 (.t 17) none (some (.t 19))),
om 21 1,
oo 22 (.apz 1 16 [(.s [])] (.t 20) (.t 21)),
om 23 0,
oo 24 (.len 0 (.t 23)),
oo 25 (.slc 1 (.t 22) none (some (.t 24))),
om 0 25]) (.skip)))) (
sq ([
om 26 0,
om 4 26]) (
.ret)))), [.raw 4]⟩
def n216 : Notes := { anns := [], frz := [0, 0, 0, 0, 0, 0, 0, 0, 0, 0, 0, 0, 0, 0, 0, 0, 0, 0, 0, 0, 1], rgs := [], raw := true }
def c217 : CFn := ⟨sq ([
oo 2 (.mv (kb false))]) (
sq ([
oo 6 (.mkm),
om 3 6]) (
.seq (sq ([
om 7 0,
oo 8 (.len 0 (.t 7)),
oo 9 (.mv (ki 0))]) (
.block 0 (.loop ⟨[3, 7, 8, 9], [], [], [], [], true⟩ (sq ([
ob 10 .lss (.t 9) (.t 8)]) (
.seq (ct 10 (
.skip) (.exit 0)) (
.seq (.block 1 (sq ([
oo 11 (.ia 1 (.t 7) (.t 9)),
ol 12 false 1 11,
om 5 12]) (
.seq (sq ([
om 13 3,
om 14 5,
oo 15 (.lk false [.s] false (.d (.b false)) (.t 13) (.t 14))]) (
ct 15 (
sq ([
oo 2 (.mv (kb false))]) (
.ret)) (.skip))) (
.region false [
om 16 3,
om 17 5,
oz (.mu false [.s] (.t 16) (.t 17) (kb true)) 0])))) (
.region false [
ob 18 .add (.t 9) (ki 1),
om 9 18]))))))) (
sq ([
oo 2 (.mv (kb true))]) (
.ret)))), [.slot 2]⟩
def n217 : Notes := { anns := [⟨[3, 7, 8, 9], [], [], [], [], true⟩], frz := [], rgs := [] }
def c218 : CFn := ⟨sq ([
oo 4 (.mv (kb false))]) (
sq ([
om 5 0,
om 6 1,
oo 7 (.call 233 [.t 5, .t 6] 4 true),
ob 8 .geq (.t 7) (ki 0),
om 4 8]) (
.ret)), [.slot 4]⟩
def n218 : Notes := { anns := [], frz := [], rgs := [] }
def c219 : CFn := ⟨sq ([
oo 2 (.mv (kb false))]) (
sq ([
om 3 0,
oo 4 (.call 220 [.t 3] 0 true),
oo 5 (.un .not (.t 4)),
om 2 5]) (
.ret)), [.slot 2]⟩
def n219 : Notes := { anns := [], frz := [], rgs := [] }
def c220 : CFn := ⟨sq ([
oo 2 (.mv (kb false))]) (
.seq (sq ([
om 5 0,
oo 6 (.len 1 (.t 5)),
ob 7 .lss (.t 6) (ki 1),
om 8 7,
oh 9 (.mv (.t 0)) 8,
oh 10 (.len 1 (.t 9)) 8,
oh 11 (.bin .gtr (.t 10) (ki 8)) 8,
oo 12 (.pick (.t 8) (kb true) (.t 11))]) (
ct 12 (
sq ([
oo 2 (.mv (kb false))]) (
.ret)) (.skip))) (
.seq (sq ([
om 13 0,
oo 14 (.len 1 (.t 13)),
oo 15 (.mv (ki 0))]) (
.block 0 (.loop ⟨[0, 14, 15], [], [], [], [], true⟩ (sq ([
ob 16 .lss (.t 15) (.t 14)]) (
.seq (ct 16 (
.skip) (.exit 0)) (
.seq (.block 1 (sq ([
om 17 15,
om 3 17]) (
sq ([
om 18 0,
om 19 3,
oo 20 (.ixs (.t 18) (.t 19)),
oo 21 (.bin .geq (.t 20) (.k (.d (.i .u8 97)))),
om 22 21,
og 23 (.mv (.t 0)) 22,
og 24 (.mv (.t 3)) 22,
og 25 (.ixs (.t 23) (.t 24)) 22,
og 26 (.bin .leq (.t 25) (.k (.d (.i .u8 122)))) 22,
oo 27 (.pick (.t 22) (.t 26) (kb false)),
om 4 27]) (
sq ([
om 28 4,
oo 29 (.un .not (.t 28)),
om 30 29,
og 31 (.mv (.t 3)) 30,
og 32 (.bin .eql (.t 31) (ki 0)) 30,
og 33 (.mv (.t 32)) 30,
oh 34 (.mv (.t 0)) 33,
oh 35 (.mv (.t 3)) 33,
oh 36 (.ixs (.t 34) (.t 35)) 33,
oh 37 (.bin .lss (.t 36) (.k (.d (.i .u8 48)))) 33,
og 38 (.pick (.t 33) (kb true) (.t 37)) 30,
og 39 (.mv (.t 38)) 30,
oh 40 (.mv (.t 0)) 39,
oh 41 (.mv (.t 3)) 39,
oh 42 (.ixs (.t 40) (.t 41)) 39,
oh 43 (.bin .gtr (.t 42) (.k (.d (.i .u8 57)))) 39,
og 44 (.pick (.t 39) (kb true) (.t 43)) 30,
oo 45 (.pick (.t 30) (.t 44) (kb false))]) (
ct 45 (
sq ([
oo 2 (.mv (kb false))]) (
.ret)) (.skip)))))) (
.region false [
ob 46 .add (.t 15) (ki 1),
om 15 46]))))))) (
sq ([
oo 2 (.mv (kb true))]) (
.ret)))), [.slot 2]⟩
def n220 : Notes := { anns := [⟨[0, 14, 15], [], [], [], [], true⟩], frz := [], rgs := [] }
def c221 : CFn := ⟨sq ([
oo 4 (.mv (ki 0))]) (
.seq (sq ([
om 6 0,
oo 7 (.len 0 (.t 6)),
oo 8 (.mv (ki 0))]) (
.block 0 (.loop ⟨[0, 1, 7, 8], [], [], [], [], true⟩ (sq ([
ob 9 .lss (.t 8) (.t 7)]) (
.seq (ct 9 (
.skip) (.exit 0)) (
.seq (.block 1 (sq ([
om 10 8,
om 5 10]) (
sq ([
om 11 1,
om 12 0,
om 13 5,
oo 14 (.ia 3 (.t 12) (.t 13)),
ol 15 true 3 14,
oo 16 (.callv (.t 11) [.t 15] 4 true)]) (
ct 16 (
sq ([
om 17 5,
om 4 17]) (
.ret)) (.skip))))) (
.region false [
ob 18 .add (.t 8) (ki 1),
om 8 18]))))))) (
sq ([
oo 4 (.mv (.k (.d (.i .i64 (-1)))))]) (
.ret))), [.slot 4]⟩
def n221 : Notes := { anns := [⟨[0, 1, 7, 8], [], [], [], [], true⟩], frz := [], rgs := [] }
def c222 : CFn := ⟨sq ([
oo 4 (.mv (kb false))]) (
sq ([
om 5 0,
om 6 1,
oo 7 (.call 234 [.t 5, .t 6] 4 true),
ob 8 .geq (.t 7) (ki 0),
om 4 8]) (
.ret)), [.slot 4]⟩
def n222 : Notes := { anns := [], frz := [], rgs := [] }
def c223 : CFn := ⟨sq ([
oo 2 (.box (.t 0)),
oo 3 (.mv (kb false))]) (
sq ([
ol 4 true 3 1,
ol 5 true 2 2,
oo 6 (.call 224 [.t 4, .t 5] 0 true),
oo 7 (.un .not (.t 6)),
om 3 7]) (
.ret)), [.slot 3]⟩
def n223 : Notes := { anns := [], frz := [], rgs := [] }
def c224 : CFn := ⟨sq ([
oo 2 (.box (.t 0)),
oo 3 (.box (.t 1)),
oo 4 (.mv (kb false))]) (
.seq (sq ([
oo 5 (fa 0 3),
ol 6 false 1 5]) (
ct 6 (
sq ([
oo 7 (fa 1 3),
ol 8 false 1 7,
ob 9 .geq (.t 8) (ki 0),
om 10 9,
og 11 (fa 1 3) 10,
og 12 (.ld false 1 (.t 11)) 10,
og 13 (fa 0 2) 10,
og 14 (.ld false 1 (.t 13)) 10,
og 15 (.len 0 (.t 14)) 10,
og 16 (.bin .lss (.t 12) (.t 15)) 10,
oo 17 (.pick (.t 10) (.t 16) (kb false)),
om 18 17,
og 19 (fa 0 2) 18,
og 20 (.ld false 1 (.t 19)) 18,
og 21 (fa 1 3) 18,
og 22 (.ld false 1 (.t 21)) 18,
og 23 (.ia 3 (.t 20) (.t 22)) 18,
og 24 (fa 2 23) 18,
og 25 (.ld false 1 (.t 24)) 18,
og 26 (.un .not (.t 25)) 18,
oo 27 (.pick (.t 18) (.t 26) (kb false)),
om 4 27]) (
.ret)) (.skip))) (
sq ([
oo 28 (fa 1 3),
ol 29 false 1 28,
ob 30 .geq (.t 29) (ki 0),
om 31 30,
og 32 (fa 1 3) 31,
og 33 (.ld false 1 (.t 32)) 31,
og 34 (fa 1 2) 31,
og 35 (.ld false 1 (.t 34)) 31,
og 36 (.len 0 (.t 35)) 31,
og 37 (.bin .lss (.t 33) (.t 36)) 31,
oo 38 (.pick (.t 31) (.t 37) (kb false)),
om 4 38]) (
.ret))), [.slot 4]⟩
def n224 : Notes := { anns := [], frz := [], rgs := [] }
def c225 : CFn := ⟨sq ([
oo 2 (.box (.t 0)),
oo 4 (.mv (ki 0)),
oo 5 (.mv (kb false))]) (
.seq (.block 0 (sq ([
om 7 1,
ob 8 .eql (.t 7) (ki 0),
om 6 8]) (
ct 6 (
sq ([
oo 9 (fa 0 2),
ol 10 false 1 9,
om 4 10,
oo 5 (.mv (kb true))]) (
.ret)) (sq ([
om 12 1,
ob 13 .lss (.t 12) (ki 0),
om 14 13,
oh 15 (.mv (.t 1)) 14,
oh 16 (fa 1 2) 14,
oh 17 (.ld false 1 (.t 16)) 14,
oh 18 (.len 0 (.t 17)) 14,
oh 19 (.bin .gtr (.t 15) (.t 18)) 14,
oo 20 (.pick (.t 14) (kb true) (.t 19)),
om 21 20,
oh 22 (fa 1 2) 21,
oh 23 (.ld false 1 (.t 22)) 21,
oh 24 (.mv (.t 1)) 21,
oh 25 (.bin .sub (.t 24) (ki 1)) 21,
oh 26 (.ia 2 (.t 23) (.t 25)) 21,
oh 27 (fa 0 26) 21,
oh 28 (.ld false 1 (.t 27)) 21,
oo 29 (.pick (.t 21) (kb true) (.t 28)),
om 11 29]) (
ct 11 (
sq ([
oo 4 (.mv (ki 0)),
oo 5 (.mv (kb false))]) (
.ret)) (.skip)))))) (
sq ([
oo 30 (fa 1 2),
ol 31 false 1 30,
om 32 1,
ob 33 .sub (.t 32) (ki 1),
oo 34 (.ia 2 (.t 31) (.t 33)),
oo 35 (fa 1 34),
ol 36 false 1 35,
om 4 36,
oo 5 (.mv (kb true))]) (
.ret))), [.slot 4, .slot 5]⟩
def n225 : Notes := { anns := [], frz := [], rgs := [] }
def c226 : CFn := ⟨sq ([
oo 4 (.mv (kb false))]) (
sq ([
om 5 0,
om 6 1,
oo 7 (.call 235 [.t 5, .t 6] 4 true),
ob 8 .geq (.t 7) (ki 0),
om 4 8]) (
.ret)), [.slot 4]⟩
def n226 : Notes := { anns := [], frz := [], rgs := [] }
def c227 : CFn := ⟨sq ([
oo 2 (.box (.t 0)),
oo 3 (.mv (kb false))]) (
sq ([
ol 4 false 1 1,
ol 5 true 10 2,
oo 6 (.callv (.t 4) [.t 5] 4 true),
oo 7 (.un .not (.t 6)),
om 3 7]) (
.ret)), [.slot 3]⟩
def n227 : Notes := { anns := [], frz := [], rgs := [] }
def c228 : CFn := ⟨sq ([
oo 2 (.box (.t 0)),
oo 3 (.box (.t 1)),
oo 4 (.mv (kb false))]) (
sq ([
oo 6 (fa 0 2),
ol 7 false 1 6,
oo 8 (.call 236 [.t 7] 0 true),
om 5 8]) (
.seq (sq ([
ol 9 false 1 3,
ob 10 .lss (.t 9) (ki 1),
om 11 10,
oh 12 (.mv (.t 5)) 11,
oh 13 (.bin .eql (.t 12) (.k (.d (.i .i64 (-2))))) 11,
oo 14 (.pick (.t 11) (kb true) (.t 13)),
om 15 14,
oh 16 (.mv (.t 5)) 15,
oh 17 (.bin .geq (.t 16) (ki 0)) 15,
oh 18 (.mv (.t 17)) 15,
og 19 (fa 7 2) 18,
og 20 (.ld false 1 (.t 19)) 18,
og 21 (.len 0 (.t 20)) 18,
og 22 (.mv (.t 5)) 18,
og 23 (.bin .neq (.t 21) (.t 22)) 18,
oh 24 (.pick (.t 18) (.t 23) (kb false)) 15,
oo 25 (.pick (.t 15) (kb true) (.t 24)),
om 26 25,
oh 27 (fa 7 2) 26,
oh 28 (.ld false 1 (.t 27)) 26,
oh 29 (.len 0 (.t 28)) 26,
oh 30 (.bin .gtr (.t 29) (ki 4)) 26,
oo 31 (.pick (.t 26) (kb true) (.t 30)),
om 32 31,
oh 33 (.ld true 8 (.t 2)) 32,
oh 34 (.call 237 [.t 33] 0 true) 32,
oh 35 (.un .not (.t 34)) 32,
oo 36 (.pick (.t 32) (kb true) (.t 35))]) (
ct 36 (
sq ([
oo 4 (.mv (kb false))]) (
.ret)) (.skip))) (
sq ([
oo 37 (fa 7 2),
ol 38 false 1 37,
oo 39 (.mkf 238 [] [.t 3] true),
oo 40 (.call 229 [.t 38, .t 39] 4 true),
oo 41 (.un .not (.t 40)),
om 4 41]) (
.ret)))), [.slot 4]⟩
def n228 : Notes := { anns := [], frz := [0, 0, 0, 0, 0, 0, 0, 0, 0, 0, 0, 0, 0, 0, 0, 0, 0, 0, 0, 0, 0, 0, 0, 0, 0, 0, 0, 0, 0, 0, 0, 0, 0, 0, 0, 0, 0, 0, 1], rgs := [] }
def c229 : CFn := ⟨sq ([
oo 4 (.mv (kb false))]) (
sq ([
om 5 0,
om 6 1,
oo 7 (.call 239 [.t 5, .t 6] 4 true),
ob 8 .geq (.t 7) (ki 0),
om 4 8]) (
.ret)), [.slot 4]⟩
def n229 : Notes := { anns := [], frz := [], rgs := [] }
def c230 : CFn := ⟨sq ([
oo 2 (.box (.t 0)),
oo 3 (.mv (kb false))]) (
sq ([
ol 4 true 3 1,
ol 5 true 8 2,
oo 6 (.call 211 [.t 4, .t 5] 0 true),
oo 7 (.un .not (.t 6)),
om 3 7]) (
.ret)), [.slot 3]⟩
def n230 : Notes := { anns := [], frz := [], rgs := [] }
def c231 : CFn := ⟨sq ([
oo 4 (.mv (kb false))]) (
sq ([
om 5 0,
om 6 1,
oo 7 (.call 240 [.t 5, .t 6] 4 true),
ob 8 .geq (.t 7) (ki 0),
om 4 8]) (
.ret)), [.slot 4]⟩
def n231 : Notes := { anns := [], frz := [], rgs := [] }
def c232 : CFn := ⟨sq ([
oo 2 (.box (.t 0)),
oo 3 (.mv (kb false))]) (
sq ([
ol 4 false 1 1,
ol 5 true 2 2,
oo 6 (.callv (.t 4) [.t 5] 4 true),
oo 7 (.un .not (.t 6)),
om 3 7]) (
.ret)), [.slot 3]⟩
def n232 : Notes := { anns := [], frz := [], rgs := [] }
def c233 : CFn := ⟨sq ([
oo 4 (.mv (ki 0))]) (
.seq (sq ([
om 6 0,
oo 7 (.len 0 (.t 6)),
oo 8 (.mv (ki 0))]) (
.block 0 (.loop ⟨[0, 1, 7, 8], [], [], [], [], true⟩ (sq ([
ob 9 .lss (.t 8) (.t 7)]) (
.seq (ct 9 (
.skip) (.exit 0)) (
.seq (.block 1 (sq ([
om 10 8,
om 5 10]) (
sq ([
om 11 1,
om 12 0,
om 13 5,
oo 14 (.ia 1 (.t 12) (.t 13)),
ol 15 false 1 14,
oo 16 (.callv (.t 11) [.t 15] 4 true)]) (
ct 16 (
sq ([
om 17 5,
om 4 17]) (
.ret)) (.skip))))) (
.region false [
ob 18 .add (.t 8) (ki 1),
om 8 18]))))))) (
sq ([
oo 4 (.mv (.k (.d (.i .i64 (-1)))))]) (
.ret))), [.slot 4]⟩
def n233 : Notes := { anns := [⟨[0, 1, 7, 8], [], [], [], [], true⟩], frz := [], rgs := [] }
def c234 : CFn := ⟨sq ([
oo 4 (.mv (ki 0))]) (
.seq (sq ([
om 6 0,
oo 7 (.len 0 (.t 6)),
oo 8 (.mv (ki 0))]) (
.block 0 (.loop ⟨[0, 1, 7, 8], [], [], [], [], true⟩ (sq ([
ob 9 .lss (.t 8) (.t 7)]) (
.seq (ct 9 (
.skip) (.exit 0)) (
.seq (.block 1 (sq ([
om 10 8,
om 5 10]) (
sq ([
om 11 1,
om 12 0,
om 13 5,
oo 14 (.ia 2 (.t 12) (.t 13)),
ol 15 true 2 14,
oo 16 (.callv (.t 11) [.t 15] 4 true)]) (
ct 16 (
sq ([
om 17 5,
om 4 17]) (
.ret)) (.skip))))) (
.region false [
ob 18 .add (.t 8) (ki 1),
om 8 18]))))))) (
sq ([
oo 4 (.mv (.k (.d (.i .i64 (-1)))))]) (
.ret))), [.slot 4]⟩
def n234 : Notes := { anns := [⟨[0, 1, 7, 8], [], [], [], [], true⟩], frz := [], rgs := [] }
def c235 : CFn := ⟨sq ([
oo 4 (.mv (ki 0))]) (
.seq (sq ([
om 6 0,
oo 7 (.len 0 (.t 6)),
oo 8 (.mv (ki 0))]) (
.block 0 (.loop ⟨[0, 1, 7, 8], [], [], [], [], true⟩ (sq ([
ob 9 .lss (.t 8) (.t 7)]) (
.seq (ct 9 (
.skip) (.exit 0)) (
.seq (.block 1 (sq ([
om 10 8,
om 5 10]) (
sq ([
om 11 1,
om 12 0,
om 13 5,
oo 14 (.ia 10 (.t 12) (.t 13)),
ol 15 true 10 14,
oo 16 (.callv (.t 11) [.t 15] 4 true)]) (
ct 16 (
sq ([
om 17 5,
om 4 17]) (
.ret)) (.skip))))) (
.region false [
ob 18 .add (.t 8) (ki 1),
om 8 18]))))))) (
sq ([
oo 4 (.mv (.k (.d (.i .i64 (-1)))))]) (
.ret))), [.slot 4]⟩
def n235 : Notes := { anns := [⟨[0, 1, 7, 8], [], [], [], [], true⟩], frz := [], rgs := [] }
def c236 : CFn := ⟨sq ([
oo 2 (.mv (ki 0))]) (
.seq (sq ([
om 3 0]) (
.block 0 (.seq (sq ([
ob 5 .eql (.t 3) (ki 0),
om 4 5]) (
ct 4 (
.skip) (sq ([
ob 6 .eql (.t 3) (ki 1),
om 4 6]) (
ct 4 (
.skip) (sq ([
ob 7 .eql (.t 3) (ki 2),
om 4 7]) (
ct 4 (
.skip) (sq ([
ob 8 .eql (.t 3) (ki 3),
om 4 8]) (
ct 4 (
.skip) (sq ([
ob 9 .eql (.t 3) (ki 21),
om 4 9]) (
ct 4 (
.skip) (.region false [
ob 10 .eql (.t 3) (ki 22),
om 4 10]))))))))))) (
ct 4 (
sq ([
oo 2 (.mv (ki 0))]) (
.ret)) (.seq (sq ([
ob 12 .eql (.t 3) (ki 11),
om 11 12]) (
ct 11 (
.skip) (.region false [
ob 13 .eql (.t 3) (ki 15),
om 11 13]))) (
ct 11 (
sq ([
oo 2 (.mv (ki 1))]) (
.ret)) (.seq (sq ([
ob 15 .eql (.t 3) (ki 12),
om 14 15]) (
ct 14 (
.skip) (.region false [
ob 16 .eql (.t 3) (ki 16),
om 14 16]))) (
ct 14 (
sq ([
oo 2 (.mv (ki 3))]) (
.ret)) (sq ([
ob 18 .eql (.t 3) (ki 14),
om 17 18]) (
ct 17 (
sq ([
oo 2 (.mv (.k (.d (.i .i64 (-1)))))]) (
.ret)) (.skip))))))))))) (
.seq (sq ([
om 19 0,
ob 20 .gtr (.t 19) (ki 3),
om 21 20,
og 22 (.mv (.t 0)) 21,
og 23 (.bin .lss (.t 22) (ki 21)) 21,
oo 24 (.pick (.t 21) (.t 23) (kb false))]) (
ct 24 (
sq ([
oo 2 (.mv (ki 2))]) (
.ret)) (.skip))) (
sq ([
oo 2 (.mv (.k (.d (.i .i64 (-2)))))]) (
.ret)))), [.slot 2]⟩
def n236 : Notes := { anns := [], frz := [], rgs := [] }
def c237 : CFn := ⟨sq ([
oo 1 (.box (.t 0)),
oo 2 (.mv (kb false))]) (
.seq (sq ([
oo 5 (fa 0 1),
ol 6 false 1 5,
ob 7 .eql (.t 6) (ki 0)]) (
ct 7 (
sq ([
oo 8 (fa 1 1),
oo 9 (fa 0 8),
ol 10 false 1 9,
ob 11 .neq (.t 10) (ki 7),
om 12 11,
og 13 (fa 1 1) 12,
og 14 (.ld true 4 (.t 13)) 12,
og 15 (.call 111 [.t 14] 0 true) 12,
oo 16 (.pick (.t 12) (.t 15) (kb false)),
om 17 16,
og 18 (fa 5 1) 17,
og 19 (.ld false 1 (.t 18)) 17,
og 20 (.bin .eql (.t 19) (ki 0)) 17,
oo 21 (.pick (.t 17) (.t 20) (kb false)),
om 22 21,
og 23 (fa 6 1) 22,
og 24 (.ld false 1 (.t 23)) 22,
og 25 (.bin .eql (.t 24) (ki 0)) 22,
oo 26 (.pick (.t 22) (.t 25) (kb false)),
om 2 26]) (
.ret)) (.skip))) (
sq ([
oo 3 (.mv (ki 0)),
oo 4 (.mv (ki 0))]) (
.seq (sq ([
oo 27 (fa 0 1),
ol 28 false 1 27]) (
.block 0 (sq ([
ob 30 .eql (.t 28) (ki 1),
om 29 30]) (
ct 29 (
.region false [
oo 3 (.mv (ki 5)),
oo 4 (.mv (ki 7))]) (.seq (sq ([
ob 32 .eql (.t 28) (ki 2),
om 31 32]) (
ct 31 (
.skip) (.region false [
ob 33 .eql (.t 28) (ki 3),
om 31 33]))) (
ct 31 (
.region false [
oo 3 (.mv (ki 5))]) (.skip))))))) (
sq ([
oo 34 (fa 1 1),
ol 35 true 4 34,
oo 36 (.call 241 [.t 35] 0 true),
om 37 36,
og 38 (fa 5 1) 37,
og 39 (.ld false 1 (.t 38)) 37,
og 40 (.bin .geq (.t 39) (ki 0)) 37,
oo 41 (.pick (.t 37) (.t 40) (kb false)),
om 42 41,
og 43 (fa 5 1) 42,
og 44 (.ld false 1 (.t 43)) 42,
og 45 (.mv (.t 3)) 42,
og 46 (.bin .leq (.t 44) (.t 45)) 42,
oo 47 (.pick (.t 42) (.t 46) (kb false)),
om 48 47,
og 49 (fa 6 1) 48,
og 50 (.ld false 1 (.t 49)) 48,
og 51 (.bin .geq (.t 50) (ki 0)) 48,
oo 52 (.pick (.t 48) (.t 51) (kb false)),
om 53 52,
og 54 (fa 6 1) 53,
og 55 (.ld false 1 (.t 54)) 53,
og 56 (.mv (.t 4)) 53,
og 57 (.bin .leq (.t 55) (.t 56)) 53,
oo 58 (.pick (.t 53) (.t 57) (kb false)),
om 2 58]) (
.ret))))), [.slot 2]⟩
def n237 : Notes := { anns := [], frz := [], rgs := [] }
def c238 : CFn := ⟨sq ([
oo 2 (.box (.t 0)),
oo 3 (.mv (kb false))]) (
sq ([
ol 4 true 8 2,
ol 5 false 1 1,
ob 6 .sub (.t 5) (ki 1),
oo 7 (.call 228 [.t 4, .t 6] 0 true),
oo 8 (.un .not (.t 7)),
om 3 8]) (
.ret)), [.slot 3]⟩
def n238 : Notes := { anns := [], frz := [], rgs := [] }
def c239 : CFn := ⟨sq ([
oo 4 (.mv (ki 0))]) (
.seq (sq ([
om 6 0,
oo 7 (.len 0 (.t 6)),
oo 8 (.mv (ki 0))]) (
.block 0 (.loop ⟨[0, 1, 7, 8], [], [], [], [], true⟩ (sq ([
ob 9 .lss (.t 8) (.t 7)]) (
.seq (ct 9 (
.skip) (.exit 0)) (
.seq (.block 1 (sq ([
om 10 8,
om 5 10]) (
sq ([
om 11 1,
om 12 0,
om 13 5,
oo 14 (.ia 8 (.t 12) (.t 13)),
ol 15 true 8 14,
oo 16 (.callv (.t 11) [.t 15] 4 true)]) (
ct 16 (
sq ([
om 17 5,
om 4 17]) (
.ret)) (.skip))))) (
.region false [
ob 18 .add (.t 8) (ki 1),
om 8 18]))))))) (
sq ([
oo 4 (.mv (.k (.d (.i .i64 (-1)))))]) (
.ret))), [.slot 4]⟩
def n239 : Notes := { anns := [⟨[0, 1, 7, 8], [], [], [], [], true⟩], frz := [], rgs := [] }
def c240 : CFn := ⟨sq ([
oo 4 (.mv (ki 0))]) (
.seq (sq ([
om 6 0,
oo 7 (.len 0 (.t 6)),
oo 8 (.mv (ki 0))]) (
.block 0 (.loop ⟨[0, 1, 7, 8], [], [], [], [], true⟩ (sq ([
ob 9 .lss (.t 8) (.t 7)]) (
.seq (ct 9 (
.skip) (.exit 0)) (
.seq (.block 1 (sq ([
om 10 8,
om 5 10]) (
sq ([
om 11 1,
om 12 0,
om 13 5,
oo 14 (.ia 2 (.t 12) (.t 13)),
ol 15 true 2 14,
oo 16 (.callv (.t 11) [.t 15] 4 true)]) (
ct 16 (
sq ([
om 17 5,
om 4 17]) (
.ret)) (.skip))))) (
.region false [
ob 18 .add (.t 8) (ki 1),
om 8 18]))))))) (
sq ([
oo 4 (.mv (.k (.d (.i .i64 (-1)))))]) (
.ret))), [.slot 4]⟩
def n240 : Notes := { anns := [⟨[0, 1, 7, 8], [], [], [], [], true⟩], frz := [], rgs := [] }
def c241 : CFn := ⟨sq ([
oo 1 (.box (.t 0)),
oo 2 (.mv (kb false))]) (
sq ([
oo 3 (fa 0 1),
ol 4 false 1 3,
ob 5 .eql (.t 4) (ki 0),
om 6 5,
og 7 (fa 1 1) 6,
og 8 (.ld false 1 (.t 7)) 6,
og 9 (.bin .eql (.t 8) (ki 0)) 6,
oo 10 (.pick (.t 6) (.t 9) (kb false)),
om 11 10,
og 12 (fa 2 1) 11,
og 13 (.ld false 1 (.t 12)) 11,
og 14 (.bin .eql (.t 13) (.k (.d (.s [])))) 11,
oo 15 (.pick (.t 11) (.t 14) (kb false)),
om 16 15,
og 17 (fa 3 1) 16,
og 18 (.ld false 1 (.t 17)) 16,
og 19 (.len 0 (.t 18)) 16,
og 20 (.bin .eql (.t 19) (ki 0)) 16,
oo 21 (.pick (.t 16) (.t 20) (kb false)),
om 2 21]) (
.ret)), [.slot 2]⟩
def n241 : Notes := { anns := [], frz := [], rgs := [] }
def tT : FTree := (.node 196 (.node 155 (.node 139 (.node 126 (.node 112 (.node 111 (.leaf 111 (.code c111)) (.leaf 112 (.code c112))) (.node 114 (.leaf 114 (.code c114)) (.node 125 (.leaf 125 (.code c125)) (.leaf 126 (.code c126))))) (.node 129 (.node 127 (.leaf 127 (.code c127)) (.node 128 (.leaf 128 (.code c128)) (.leaf 129 (.code c129)))) (.node 130 (.leaf 130 (.code c130)) (.node 137 (.leaf 137 (.code c137)) (.leaf 139 (.code c139)))))) (.node 144 (.node 141 (.node 140 (.leaf 140 (.code c140)) (.leaf 141 (.code c141))) (.node 142 (.leaf 142 (.code c142)) (.node 143 (.leaf 143 (.code c143)) (.leaf 144 (.code c144))))) (.node 152 (.node 145 (.leaf 145 (.code c145)) (.node 151 (.leaf 151 (.code c151)) (.leaf 152 (.code c152)))) (.node 153 (.leaf 153 (.code c153)) (.node 154 (.leaf 154 (.code c154)) (.leaf 155 (.code c155))))))) (.node 184 (.node 177 (.node 169 (.node 164 (.leaf 164 (.code c164)) (.leaf 169 (.code c169))) (.node 170 (.leaf 170 (.code c170)) (.node 172 (.leaf 172 (.code c172)) (.leaf 177 (.code c177))))) (.node 180 (.node 178 (.leaf 178 (.code c178)) (.node 179 (.leaf 179 (.code c179)) (.leaf 180 (.code c180)))) (.node 181 (.leaf 181 (.code c181)) (.node 182 (.leaf 182 (.code c182)) (.leaf 184 (.code c184)))))) (.node 190 (.node 187 (.node 185 (.leaf 185 (.code c185)) (.node 186 (.leaf 186 (.code c186)) (.leaf 187 (.code c187)))) (.node 188 (.leaf 188 (.code c188)) (.node 189 (.leaf 189 (.code c189)) (.leaf 190 (.code c190))))) (.node 193 (.node 191 (.leaf 191 (.code c191)) (.node 192 (.leaf 192 (.code c192)) (.leaf 193 (.code c193)))) (.node 194 (.leaf 194 (.code c194)) (.node 195 (.leaf 195 (.code c195)) (.leaf 196 (.prim (Ci.reachImpl))))))))) (.node 218 (.node 207 (.node 201 (.node 198 (.node 197 (.leaf 197 (.code c197)) (.leaf 198 (.code c198))) (.node 199 (.leaf 199 (.code c199)) (.node 200 (.leaf 200 (.code c200)) (.leaf 201 (.code c201))))) (.node 204 (.node 202 (.leaf 202 (.code c202)) (.node 203 (.leaf 203 (.code c203)) (.leaf 204 (.code c204)))) (.node 205 (.leaf 205 (.code c205)) (.node 206 (.leaf 206 (.code c206)) (.leaf 207 (.code c207)))))) (.node 212 (.node 209 (.node 208 (.leaf 208 (.code c208)) (.leaf 209 (.code c209))) (.node 210 (.leaf 210 (.code c210)) (.node 211 (.leaf 211 (.code c211)) (.leaf 212 (.code c212))))) (.node 215 (.node 213 (.leaf 213 (.code c213)) (.node 214 (.leaf 214 (.code c214)) (.leaf 215 (.code c215)))) (.node 216 (.leaf 216 (.code c216)) (.node 217 (.leaf 217 (.code c217)) (.leaf 218 (.code c218))))))) (.node 229 (.node 223 (.node 220 (.node 219 (.leaf 219 (.code c219)) (.leaf 220 (.code c220))) (.node 221 (.leaf 221 (.code c221)) (.node 222 (.leaf 222 (.code c222)) (.leaf 223 (.code c223))))) (.node 226 (.node 224 (.leaf 224 (.code c224)) (.node 225 (.leaf 225 (.code c225)) (.leaf 226 (.code c226)))) (.node 227 (.leaf 227 (.code c227)) (.node 228 (.leaf 228 (.code c228)) (.leaf 229 (.code c229)))))) (.node 235 (.node 232 (.node 230 (.leaf 230 (.code c230)) (.node 231 (.leaf 231 (.code c231)) (.leaf 232 (.code c232)))) (.node 233 (.leaf 233 (.code c233)) (.node 234 (.leaf 234 (.code c234)) (.leaf 235 (.code c235))))) (.node 238 (.node 236 (.leaf 236 (.code c236)) (.node 237 (.leaf 237 (.code c237)) (.leaf 238 (.code c238)))) (.node 239 (.leaf 239 (.code c239)) (.node 240 (.leaf 240 (.code c240)) (.leaf 241 (.code c241)))))))))
noncomputable def tF : Nat → Option Fn := FTree.get tT
end Ab
