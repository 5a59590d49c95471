/-
 X: compiled functions: printed by a program of the workbench; the kernel checks each against the model's code.
-/
import Derived.Test.YtblhbdagpefloaaGreatDoorPack3
import Derived.Test.YtblhbdagpefloaaGreatDoorW1
import Derived.Test.YtblhbdagpefloaaGreatDoorW2
namespace Ab
def c110 : CFn := ⟨sq ([
oo 1 (.box (.t 0)),
oo 2 (.mv (.k (.d (.b false))))]) (
.seq (sq ([
ol 6 true 4 1,
oo 7 (.call 113 [.t 6] 0 true),
oo 8 (.bin .gtr (.t 7) (ki 60))]) (
.cond (.t 8) (
sq ([
oo 2 (.mv (.k (.d (.b false))))]) (
.ret)) (.skip))) (
.seq (sq ([
oo 3 (.mv (ki 0))]) (
.block 0 (.loop ⟨[1, 3], [], [], [], [], true⟩ (.seq (sq ([
om 9 3,
oo 10 (.fa 3 (.t 1)),
ol 11 false 1 10,
oo 12 (.len 0 (.t 11)),
oo 13 (.bin .lss (.t 9) (.t 12))]) (
.cond (.t 13) (
.skip) (.exit 0))) (
.seq (.block 1 (sq ([
oo 16 (.fa 3 (.t 1)),
ol 17 false 1 16,
om 18 3,
oo 19 (.ia 4 (.t 17) (.t 18)),
ol 20 true 4 19,
oo 21 (.call 110 [.t 20] 0 true),
oo 22 (.un .not (.t 21)),
om 23 22,
oh 24 (.fa 3 (.t 1)) 23,
oh 25 (.ld false 1 (.t 24)) 23,
oh 26 (.mv (.t 3)) 23,
oh 27 (.ia 4 (.t 25) (.t 26)) 23,
oh 28 (.fa 0 (.t 27)) 23,
oh 29 (.ld false 1 (.t 28)) 23,
oh 30 (.bin .eql (.t 29) (ki 7)) 23,
oo 31 (.pick (.t 23) (.k (.d (.b true))) (.t 30))]) (
.cond (.t 31) (
sq ([
oo 2 (.mv (.k (.d (.b false))))]) (
.ret)) (.skip)))) (
.region false [
om 14 3,
oo 15 (.bin .add (.t 14) (ki 1)),
om 3 15])))))) (
.seq (sq ([
oo 32 (.fa 0 (.t 1)),
ol 33 false 1 32]) (
.block 2 (sq ([
oo 35 (.bin .eql (.t 33) (ki 1)),
om 34 35]) (
.cond (.t 34) (
sq ([
oo 36 (.fa 2 (.t 1)),
ol 37 false 1 36,
oo 38 (.bin .eql (.t 37) (.k (.d (.s [])))),
om 39 38,
og 40 (.fa 3 (.t 1)) 39,
og 41 (.ld false 1 (.t 40)) 39,
og 42 (.len 0 (.t 41)) 39,
og 43 (.bin .eql (.t 42) (ki 0)) 39,
oo 44 (.pick (.t 39) (.t 43) (.k (.d (.b false)))),
om 2 44]) (
.ret)) (sq ([
oo 46 (.bin .eql (.t 33) (ki 2)),
om 45 46]) (
.cond (.t 45) (
sq ([
oo 47 (.fa 2 (.t 1)),
ol 48 false 1 47,
oo 49 (.bin .eql (.t 48) (.k (.d (.s [])))),
om 50 49,
og 51 (.fa 3 (.t 1)) 50,
og 52 (.ld false 1 (.t 51)) 50,
og 53 (.len 0 (.t 52)) 50,
og 54 (.bin .eql (.t 53) (ki 0)) 50,
oo 55 (.pick (.t 50) (.t 54) (.k (.d (.b false)))),
om 56 55,
og 57 (.fa 1 (.t 1)) 56,
og 58 (.ld false 1 (.t 57)) 56,
og 59 (.bin .eql (.t 58) (ki 0)) 56,
og 60 (.mv (.t 59)) 56,
oh 61 (.fa 1 (.t 1)) 60,
oh 62 (.ld false 1 (.t 61)) 60,
oh 63 (.bin .eql (.t 62) (ki 1)) 60,
og 64 (.pick (.t 60) (.k (.d (.b true))) (.t 63)) 56,
oo 65 (.pick (.t 56) (.t 64) (.k (.d (.b false)))),
om 2 65]) (
.ret)) (sq ([
oo 67 (.bin .eql (.t 33) (ki 3)),
om 66 67]) (
.cond (.t 66) (
sq ([
oo 68 (.fa 1 (.t 1)),
ol 69 false 1 68,
oo 70 (.bin .eql (.t 69) (ki 0)),
om 71 70,
og 72 (.fa 3 (.t 1)) 71,
og 73 (.ld false 1 (.t 72)) 71,
og 74 (.len 0 (.t 73)) 71,
og 75 (.bin .eql (.t 74) (ki 0)) 71,
oo 76 (.pick (.t 71) (.t 75) (.k (.d (.b false)))),
om 2 76]) (
.ret)) (sq ([
oo 78 (.bin .eql (.t 33) (ki 7)),
om 77 78]) (
.cond (.t 77) (
sq ([
oo 79 (.fa 2 (.t 1)),
ol 80 false 1 79,
oo 81 (.bin .eql (.t 80) (.k (.d (.s [])))),
om 82 81,
og 83 (.fa 3 (.t 1)) 82,
og 84 (.ld false 1 (.t 83)) 82,
og 85 (.len 0 (.t 84)) 82,
og 86 (.bin .eql (.t 85) (ki 0)) 82,
oo 87 (.pick (.t 82) (.t 86) (.k (.d (.b false)))),
om 88 87,
og 89 (.fa 1 (.t 1)) 88,
og 90 (.ld false 1 (.t 89)) 88,
og 91 (.bin .geq (.t 90) (ki 1)) 88,
oo 92 (.pick (.t 88) (.t 91) (.k (.d (.b false)))),
om 93 92,
og 94 (.fa 1 (.t 1)) 93,
og 95 (.ld false 1 (.t 94)) 93,
og 96 (.bin .leq (.t 95) (ki 13)) 93,
oo 97 (.pick (.t 93) (.t 96) (.k (.d (.b false)))),
om 2 97]) (
.ret)) (.skip))))))))))) (
.seq (sq ([
oo 98 (.fa 1 (.t 1)),
ol 99 false 1 98,
oo 100 (.bin .neq (.t 99) (ki 0)),
om 101 100,
oh 102 (.fa 2 (.t 1)) 101,
oh 103 (.ld false 1 (.t 102)) 101,
oh 104 (.bin .neq (.t 103) (.k (.d (.s [])))) 101,
oo 105 (.pick (.t 101) (.k (.d (.b true))) (.t 104)),
om 106 105,
oh 107 (.fa 0 (.t 1)) 106,
oh 108 (.ld false 1 (.t 107)) 106,
oh 109 (.bin .lss (.t 108) (ki 4)) 106,
oo 110 (.pick (.t 106) (.k (.d (.b true))) (.t 109)),
om 111 110,
oh 112 (.fa 0 (.t 1)) 111,
oh 113 (.ld false 1 (.t 112)) 111,
oh 114 (.bin .gtr (.t 113) (ki 6)) 111,
oo 115 (.pick (.t 111) (.k (.d (.b true))) (.t 114))]) (
.cond (.t 115) (
sq ([
oo 2 (.mv (.k (.d (.b false))))]) (
.ret)) (.skip))) (
.seq (sq ([
oo 4 (.mv (ki 0))]) (
.block 3 (.loop ⟨[1, 4], [], [], [], [], true⟩ (.seq (sq ([
om 116 4,
oo 117 (.fa 3 (.t 1)),
ol 118 false 1 117,
oo 119 (.len 0 (.t 118)),
oo 120 (.bin .lss (.t 116) (.t 119))]) (
.cond (.t 120) (
.skip) (.exit 3))) (
.seq (.block 4 (sq ([
oo 123 (.fa 3 (.t 1)),
ol 124 false 1 123,
om 125 4,
oo 126 (.ia 4 (.t 124) (.t 125)),
ol 127 true 4 126,
oo 5 (.zero (.agg zV)),
oz (.st 4 (.t 5) (.t 127)) 0]) (
.seq (.seq (.region true [
oo 128 (.fa 0 (.t 1)),
ow 129 (.ld false 1 (.t 128)) 1,
ow 130 (.bin .eql (.t 129) (ki 5)) 3,
ow 131 (.mv (.t 130)) 7,
⟨some 132, .mv (.t 4), (some (131, true)), 15⟩,
⟨some 133, .bin .gtr (.t 132) (ki 0), (some (131, true)), 31⟩,
ow 134 (.pick (.t 131) (.t 133) (.k (.d (.b false)))) 63,
ow 135 (.mv (.t 134)) 127,
⟨some 136, .fa 3 (.t 1), (some (135, true)), 255⟩,
⟨some 137, .ld false 1 (.t 136), (some (135, true)), 511⟩,
⟨some 138, .mv (.t 4), (some (135, true)), 255⟩,
⟨some 139, .bin .sub (.t 138) (ki 1), (some (135, true)), 1279⟩,
⟨some 140, .ia 4 (.t 137) (.t 139), (some (135, true)), 4095⟩,
⟨some 141, .ld true 4 (.t 140), (some (135, true)), 8191⟩,
⟨some 142, .ld true 4 (.t 5), (some (135, true)), 255⟩,
⟨some 143, .call 115 [.t 141, .t 142] 0 true, (some (135, true)), 32767⟩,
⟨some 144, .bin .geq (.t 143) (ki 0), (some (135, true)), 65535⟩,
ow 145 (.pick (.t 135) (.t 144) (.k (.d (.b false)))) 131071]) (
.cond (.t 145) (
sq ([
oo 2 (.mv (.k (.d (.b false))))]) (
.ret)) (.skip))) (
.seq (.region true [
oo 146 (.fa 0 (.t 1)),
ow 147 (.ld false 1 (.t 146)) 1,
ow 148 (.bin .eql (.t 147) (ki 6)) 3,
ow 149 (.mv (.t 148)) 7,
⟨some 150, .fa 0 (.t 5), (some (149, true)), 15⟩,
⟨some 151, .ld false 1 (.t 150), (some (149, true)), 31⟩,
⟨some 152, .bin .neq (.t 151) (ki 4), (some (149, true)), 63⟩,
⟨some 153, .mv (.t 152), (some (149, true)), 127⟩,
⟨some 154, .fa 3 (.t 5), (some (153, false)), 255⟩,
⟨some 155, .ld false 1 (.t 154), (some (153, false)), 511⟩,
⟨some 156, .len 0 (.t 155), (some (153, false)), 1023⟩,
⟨some 157, .bin .neq (.t 156) (ki 2), (some (153, false)), 2047⟩,
⟨some 158, .pick (.t 153) (.k (.d (.b true))) (.t 157), (some (149, true)), 4095⟩,
⟨some 159, .mv (.t 158), (some (149, true)), 8191⟩,
⟨some 160, .fa 3 (.t 5), (some (159, false)), 16383⟩,
⟨some 161, .ld false 1 (.t 160), (some (159, false)), 32767⟩,
⟨some 162, .ia 4 (.t 161) (ki 0), (some (159, false)), 65535⟩,
⟨some 163, .fa 0 (.t 162), (some (159, false)), 131071⟩,
⟨some 164, .ld false 1 (.t 163), (some (159, false)), 262143⟩,
⟨some 165, .bin .neq (.t 164) (ki 3), (some (159, false)), 524287⟩,
⟨some 166, .pick (.t 159) (.k (.d (.b true))) (.t 165), (some (149, true)), 1048575⟩,
⟨some 167, .mv (.t 166), (some (149, true)), 2097151⟩,
⟨some 168, .mv (.t 4), (some (167, false)), 4194303⟩,
⟨some 169, .bin .gtr (.t 168) (ki 0), (some (167, false)), 8388607⟩,
⟨some 170, .mv (.t 169), (some (167, false)), 16777215⟩,
⟨some 171, .fa 3 (.t 1), (some (170, true)), 33554431⟩,
⟨some 172, .ld false 1 (.t 171), (some (170, true)), 67108863⟩,
⟨some 173, .mv (.t 4), (some (170, true)), 33554431⟩,
⟨some 174, .bin .sub (.t 173) (ki 1), (some (170, true)), 167772159⟩,
⟨some 175, .ia 4 (.t 172) (.t 174), (some (170, true)), 536870911⟩,
⟨some 176, .fa 3 (.t 175), (some (170, true)), 1073741823⟩,
⟨some 177, .ld false 1 (.t 176), (some (170, true)), 2147483647⟩,
⟨some 178, .ia 4 (.t 177) (ki 0), (some (170, true)), 4294967295⟩,
⟨some 179, .fa 2 (.t 178), (some (170, true)), 8589934591⟩,
⟨some 180, .ld false 1 (.t 179), (some (170, true)), 17179869183⟩,
⟨some 181, .fa 3 (.t 5), (some (170, true)), 33554431⟩,
⟨some 182, .ld false 1 (.t 181), (some (170, true)), 34393292799⟩,
⟨some 183, .ia 4 (.t 182) (ki 0), (some (170, true)), 103112769535⟩,
⟨some 184, .fa 2 (.t 183), (some (170, true)), 240551723007⟩,
⟨some 185, .ld false 1 (.t 184), (some (170, true)), 515429629951⟩,
⟨some 186, .bin .geq (.t 180) (.t 185), (some (170, true)), 1099511627775⟩,
⟨some 187, .pick (.t 170) (.t 186) (.k (.d (.b false))), (some (167, false)), 2199023255551⟩,
⟨some 188, .pick (.t 167) (.k (.d (.b true))) (.t 187), (some (149, true)), 4398046511103⟩,
ow 189 (.pick (.t 149) (.t 188) (.k (.d (.b false)))) 8796093022207]) (
.cond (.t 189) (
sq ([
oo 2 (.mv (.k (.d (.b false))))]) (
.ret)) (.skip)))))) (
.region false [
om 121 4,
oo 122 (.bin .add (.t 121) (ki 1)),
om 4 122])))))) (
sq ([
oo 2 (.mv (.k (.d (.b true))))]) (
.ret))))))), [.slot 2]⟩
def n110 : Notes := { anns := [⟨[1, 3], [], [], [], [], true⟩, ⟨[1, 4], [], [], [], [], true⟩], frz := [], rgs := [] }
def c111 : CFn := ⟨sq ([
oo 1 (.box (.t 0)),
oo 2 (.mv (.k (.d (.b false))))]) (
sq ([
ol 3 true 4 1,
oo 4 (.call 112 [.t 3] 0 true),
oo 5 (.bin .leq (.t 4) (ki 60)),
om 6 5,
og 7 (.ld true 4 (.t 1)) 6,
og 8 (.call 125 [.t 7] 0 true) 6,
oo 9 (.pick (.t 6) (.t 8) (.k (.d (.b false)))),
om 2 9]) (
.ret)), [.slot 2]⟩
def n111 : Notes := { anns := [], frz := [], rgs := [] }
def c112 : CFn := ⟨sq ([
oo 1 (.box (.t 0)),
oo 2 (.mv (ki 0))]) (
sq ([
oo 6 (.fa 2 (.t 1)),
ol 7 false 1 6,
oo 8 (.len 1 (.t 7)),
oo 9 (.bin .quo (.t 8) (ki 16)),
oo 10 (.bin .add (ki 1) (.t 9)),
om 3 10]) (
.seq (sq ([
oo 11 (.fa 3 (.t 1)),
ol 12 false 1 11,
oo 13 (.len 0 (.t 12)),
oo 14 (.mv (ki 0))]) (
.block 0 (.loop ⟨[3, 12, 13, 14], [], [], [], [], true⟩ (sq ([
oo 15 (.bin .lss (.t 14) (.t 13))]) (
.seq (.cond (.t 15) (
.skip) (.exit 0)) (
.seq (.block 1 (sq ([
oo 16 (.ia 4 (.t 12) (.t 14)),
ol 17 true 4 16,
oo 5 (.zero (.agg zV)),
oz (.st 4 (.t 5) (.t 17)) 0]) (
.region false [
om 18 3,
ol 19 true 4 5,
oo 20 (.call 112 [.t 19] 0 true),
oo 21 (.bin .add (.t 18) (.t 20)),
om 3 21]))) (
.region false [
oo 22 (.bin .add (.t 14) (ki 1)),
om 14 22]))))))) (
sq ([
om 23 3,
om 2 23]) (
.ret)))), [.slot 2]⟩
def n112 : Notes := { anns := [⟨[3, 12, 13, 14], [], [], [], [], true⟩], frz := [], rgs := [] }
def c113 : CFn := ⟨sq ([
oo 1 (.box (.t 0)),
oo 2 (.mv (ki 0))]) (
sq ([
oo 5 (.fa 2 (.t 1)),
ol 6 false 1 5,
oo 7 (.len 1 (.t 6)),
oo 8 (.bin .quo (.t 7) (ki 16)),
oo 9 (.bin .add (ki 1) (.t 8)),
om 3 9]) (
.seq (sq ([
oo 4 (.mv (ki 0))]) (
.block 0 (.loop ⟨[1, 3, 4], [], [], [], [], true⟩ (.seq (sq ([
om 10 4,
oo 11 (.fa 3 (.t 1)),
ol 12 false 1 11,
oo 13 (.len 0 (.t 12)),
oo 14 (.bin .lss (.t 10) (.t 13))]) (
.cond (.t 14) (
.skip) (.exit 0))) (
.seq (.block 1 (.region false [
om 17 3,
oo 18 (.fa 3 (.t 1)),
ol 19 false 1 18,
om 20 4,
oo 21 (.ia 4 (.t 19) (.t 20)),
ol 22 true 4 21,
oo 23 (.call 113 [.t 22] 0 true),
oo 24 (.bin .add (.t 17) (.t 23)),
om 3 24])) (
.region false [
om 15 4,
oo 16 (.bin .add (.t 15) (ki 1)),
om 4 16])))))) (
sq ([
om 25 3,
om 2 25]) (
.ret)))), [.slot 2]⟩
def n113 : Notes := { anns := [⟨[1, 3, 4], [], [], [], [], true⟩], frz := [], rgs := [] }
def c114 : CFn := ⟨sq ([
oo 2 (.box (.t 0)),
oo 3 (.box (.t 1)),
oo 4 (.mv (ki 0))]) (
.seq (.region true [
oo 5 (.fa 0 (.t 2)),
ow 6 (.ld false 1 (.t 5)) 1,
oo 7 (.fa 0 (.t 3)),
ow 8 (.ld false 1 (.t 7)) 4,
ow 9 (.call 127 [.t 6, .t 8] 0 true) 15,
oo 10 (.fa 1 (.t 2)),
ow 11 (.ld false 1 (.t 10)) 32,
oo 12 (.fa 1 (.t 3)),
ow 13 (.ld false 1 (.t 12)) 128,
ow 14 (.call 128 [.t 11, .t 13] 0 true) 511,
oo 15 (.fa 2 (.t 2)),
ow 16 (.ld false 1 (.t 15)) 1024,
oo 17 (.fa 2 (.t 3)),
ow 18 (.ld false 1 (.t 17)) 4096,
ow 19 (.call 129 [.t 16, .t 18] 0 true) 16383,
oo 20 (.fa 3 (.t 2)),
ow 21 (.ld false 1 (.t 20)) 32768,
oo 22 (.fa 3 (.t 3)),
ow 23 (.ld false 1 (.t 22)) 131072,
ow 24 (.call 130 [.t 21, .t 23, (.k (.d (.f 114 [] [])))] 4 true) 524287,
ow 25 (.bsl 1 4 [(.i .i64 0)] [(0, .t 9), (1, .t 14), (2, .t 19), (3, .t 24)]) 1048575,
ow 26 (.call 126 [.t 25] 0 true) 2097151,
ow 4 (.mv (.t 26)) 4194303]) (
.ret)), [.slot 4]⟩
def n114 : Notes := { anns := [], frz := [], rgs := [] }
def c115 : CFn := ⟨sq ([
oo 2 (.box (.t 0)),
oo 3 (.box (.t 1)),
oo 4 (.mv (ki 0))]) (
.seq (.block 0 (sq ([
oo 8 (.fa 0 (.t 2)),
ol 9 false 1 8,
oo 10 (.fa 0 (.t 3)),
ol 11 false 1 10,
oo 12 (.bin .neq (.t 9) (.t 11)),
om 7 12]) (
.cond (.t 7) (
sq ([
oo 13 (.fa 0 (.t 2)),
ol 14 false 1 13,
oo 15 (.fa 0 (.t 3)),
ol 16 false 1 15,
oo 17 (.bin .lss (.t 14) (.t 16)),
oo 18 (.call 131 [.t 17] 0 true),
om 4 18]) (
.ret)) (sq ([
oo 20 (.fa 1 (.t 2)),
ol 21 false 1 20,
oo 22 (.fa 1 (.t 3)),
ol 23 false 1 22,
oo 24 (.bin .neq (.t 21) (.t 23)),
om 19 24]) (
.cond (.t 19) (
sq ([
oo 25 (.fa 1 (.t 2)),
ol 26 false 1 25,
oo 27 (.fa 1 (.t 3)),
ol 28 false 1 27,
oo 29 (.bin .lss (.t 26) (.t 28)),
oo 30 (.call 131 [.t 29] 0 true),
om 4 30]) (
.ret)) (sq ([
oo 32 (.fa 2 (.t 2)),
ol 33 false 1 32,
oo 34 (.fa 2 (.t 3)),
ol 35 false 1 34,
oo 36 (.bin .neq (.t 33) (.t 35)),
om 31 36]) (
.cond (.t 31) (
sq ([
oo 37 (.fa 2 (.t 2)),
ol 38 false 1 37,
oo 39 (.fa 2 (.t 3)),
ol 40 false 1 39,
oo 41 (.bin .lss (.t 38) (.t 40)),
oo 42 (.call 131 [.t 41] 0 true),
om 4 42]) (
.ret)) (.skip)))))))) (
.seq (sq ([
oo 5 (.mv (ki 0))]) (
.block 1 (.loop ⟨[2, 3, 5], [], [], [], [], true⟩ (.seq (sq ([
om 43 5,
oo 44 (.fa 3 (.t 2)),
ol 45 false 1 44,
oo 46 (.len 0 (.t 45)),
oo 47 (.bin .lss (.t 43) (.t 46)),
om 48 47,
og 49 (.mv (.t 5)) 48,
og 50 (.fa 3 (.t 3)) 48,
og 51 (.ld false 1 (.t 50)) 48,
og 52 (.len 0 (.t 51)) 48,
og 53 (.bin .lss (.t 49) (.t 52)) 48,
oo 54 (.pick (.t 48) (.t 53) (.k (.d (.b false))))]) (
.cond (.t 54) (
.skip) (.exit 1))) (
.seq (.block 2 (.seq (.region true [
oo 57 (.fa 3 (.t 2)),
ow 58 (.ld false 1 (.t 57)) 1,
om 59 5,
ow 60 (.ia 4 (.t 58) (.t 59)) 7,
ow 61 (.ld true 4 (.t 60)) 15,
oo 62 (.fa 3 (.t 3)),
ow 63 (.ld false 1 (.t 62)) 32,
om 64 5,
ow 65 (.ia 4 (.t 63) (.t 64)) 224,
ow 66 (.ld true 4 (.t 65)) 480,
ow 67 (.call 115 [.t 61, .t 66] 0 true) 1023,
ow 6 (.mv (.t 67)) 2047]) (
sq ([
om 68 6,
oo 69 (.bin .neq (.t 68) (ki 0))]) (
.cond (.t 69) (
sq ([
om 70 6,
om 4 70]) (
.ret)) (.skip))))) (
.region false [
om 55 5,
oo 56 (.bin .add (.t 55) (ki 1)),
om 5 56])))))) (
.seq (sq ([
oo 71 (.fa 3 (.t 2)),
ol 72 false 1 71,
oo 73 (.len 0 (.t 72)),
oo 74 (.fa 3 (.t 3)),
ol 75 false 1 74,
oo 76 (.len 0 (.t 75)),
oo 77 (.bin .eql (.t 73) (.t 76))]) (
.cond (.t 77) (
sq ([
oo 4 (.mv (ki 0))]) (
.ret)) (.skip))) (
sq ([
oo 78 (.fa 3 (.t 2)),
ol 79 false 1 78,
oo 80 (.len 0 (.t 79)),
oo 81 (.fa 3 (.t 3)),
ol 82 false 1 81,
oo 83 (.len 0 (.t 82)),
oo 84 (.bin .lss (.t 80) (.t 83)),
oo 85 (.call 131 [.t 84] 0 true),
om 4 85]) (
.ret))))), [.slot 4]⟩
def n115 : Notes := { anns := [⟨[2, 3, 5], [], [], [], [], true⟩], frz := [], rgs := [] }
def c116 : CFn := ⟨sq ([
oo 3 (.box (.t 1)),
oo 4 (.mv (.k (.nil 4)))]) (
sq ([
om 8 0,
oo 9 (.build zV [(3, 1, .t 8)]),
oo 10 (.call 132 [.t 9] 4 false),
oo 11 (.fl false 3 1 (.t 10)),
om 5 11]) (
sq ([
om 13 0,
ol 14 true 4 3,
oo 15 (.call 133 [.t 13, .t 14, (.k (.d (.f 114 [] [])))] 4 true),
om 12 15,
oo 16 (.ext (.t 12) 0),
oo 17 (.ext (.t 12) 1),
om 6 16,
om 7 17]) (
.seq (sq ([
om 18 7]) (
.cond (.t 18) (
sq ([
om 19 5,
om 4 19]) (
.ret)) (.skip))) (
sq ([
om 20 5,
om 21 6,
ol 22 true 4 3,
oo 23 (.call 132 [.t 22] 0 true),
oo 24 (.bsl 4 1 [(.i .i64 0), (.i .i64 0), (.s []), (.l 4 [])] [(0, .t 23)]),
oo 25 (.call 134 [.t 20, .t 21, .t 24] 0 true),
om 4 25]) (
.ret))))), [.slot 4]⟩
def n116 : Notes := { anns := [], frz := [0, 0, 0, 0, 1], rgs := [] }
def c119 : CFn := ⟨sq ([
oo 4 (.mv (ki 0)),
oo 5 (.mv (.k (.d (.b false))))]) (
sq ([
om 6 0,
om 7 1,
oo 8 (.call 135 [.t 6, .t 7, (.k (.d (.f 136 [] [])))] 4 true),
oo 9 (.ext (.t 8) 0),
oo 10 (.ext (.t 8) 1),
om 4 9,
om 5 10]) (
.ret)), [.slot 4, .slot 5]⟩
def n119 : Notes := { anns := [], frz := [], rgs := [] }
def c125 : CFn := ⟨sq ([
oo 1 (.box (.t 0)),
oo 2 (.mv (.k (.d (.b false))))]) (
.seq (sq ([
oo 3 (.fa 0 (.t 1)),
ol 4 false 1 3,
oo 5 (.bin .lss (.t 4) (ki 1)),
om 6 5,
oh 7 (.fa 0 (.t 1)) 6,
oh 8 (.ld false 1 (.t 7)) 6,
oh 9 (.bin .gtr (.t 8) (ki 7)) 6,
oo 10 (.pick (.t 6) (.k (.d (.b true))) (.t 9)),
om 11 10,
oh 12 (.ld true 4 (.t 1)) 11,
oh 13 (.call 139 [.t 12] 0 true) 11,
oh 14 (.un .not (.t 13)) 11,
oo 15 (.pick (.t 11) (.k (.d (.b true))) (.t 14)),
om 16 15,
oh 17 (.fa 0 (.t 1)) 16,
oh 18 (.ld false 1 (.t 17)) 16,
oh 19 (.bin .neq (.t 18) (ki 3)) 16,
oh 20 (.mv (.t 19)) 16,
og 21 (.fa 2 (.t 1)) 20,
og 22 (.ld false 1 (.t 21)) 20,
og 23 (.bin .neq (.t 22) (.k (.d (.s [])))) 20,
oh 24 (.pick (.t 20) (.t 23) (.k (.d (.b false)))) 16,
oo 25 (.pick (.t 16) (.k (.d (.b true))) (.t 24)),
om 26 25,
oh 27 (.ld true 4 (.t 1)) 26,
oh 28 (.call 140 [.t 27] 0 true) 26,
oh 29 (.un .not (.t 28)) 26,
oo 30 (.pick (.t 26) (.k (.d (.b true))) (.t 29))]) (
.cond (.t 30) (
sq ([
oo 2 (.mv (.k (.d (.b false))))]) (
.ret)) (.skip))) (
sq ([
oo 31 (.fa 3 (.t 1)),
ol 32 false 1 31,
oo 33 (.call 141 [.t 32, (.k (.d (.f 142 [] [])))] 4 true),
oo 34 (.un .not (.t 33)),
om 2 34]) (
.ret))), [.slot 2]⟩
def n125 : Notes := { anns := [], frz := [], rgs := [] }
def c126 : CFn := ⟨sq ([
oo 2 (.mv (ki 0))]) (
sq ([
oo 3 (.mv (ki 0))]) (
.seq (sq ([
om 6 0,
oo 7 (.len 0 (.t 6)),
oo 8 (.mv (ki 0))]) (
.block 0 (.loop ⟨[3, 6, 7, 8], [], [], [], [], true⟩ (sq ([
oo 9 (.bin .lss (.t 8) (.t 7))]) (
.seq (.cond (.t 9) (
.skip) (.exit 0)) (
.seq (.block 1 (sq ([
oo 10 (.ia 1 (.t 6) (.t 8)),
ol 11 false 1 10,
om 5 11]) (
sq ([
om 12 5,
om 13 3,
oo 14 (.bin .neq (.t 12) (.t 13))]) (
.cond (.t 14) (
sq ([
om 15 5,
om 2 15]) (
.ret)) (.skip))))) (
.region false [
oo 16 (.bin .add (.t 8) (ki 1)),
om 8 16]))))))) (
sq ([
om 17 3,
om 2 17]) (
.ret)))), [.slot 2]⟩
def n126 : Notes := { anns := [⟨[3, 6, 7, 8], [], [], [], [], true⟩], frz := [], rgs := [] }
def c127 : CFn := ⟨sq ([
oo 4 (.mv (ki 0))]) (
sq ([
om 7 0,
oo 8 (.call 143 [.t 7] 0 true),
om 5 8]) (
sq ([
om 9 1,
oo 10 (.call 143 [.t 9] 0 true),
om 6 10]) (
.seq (sq ([
om 11 5]) (
.cond (.t 11) (
.seq (sq ([
om 12 6]) (
.cond (.t 12) (
sq ([
oo 4 (.mv (ki 0))]) (
.ret)) (.skip))) (
sq ([
oo 4 (.mv (.k (.d (.i .i64 (-1)))))]) (
.ret))) (.skip))) (
.seq (sq ([
om 13 6]) (
.cond (.t 13) (
sq ([
oo 4 (.mv (ki 1))]) (
.ret)) (.skip))) (
.seq (sq ([
om 14 0,
om 15 1,
oo 16 (.bin .lss (.t 14) (.t 15))]) (
.cond (.t 16) (
sq ([
oo 4 (.mv (.k (.d (.i .i64 (-1)))))]) (
.ret)) (.skip))) (
.seq (sq ([
om 17 0,
om 18 1,
oo 19 (.bin .gtr (.t 17) (.t 18))]) (
.cond (.t 19) (
sq ([
oo 4 (.mv (ki 1))]) (
.ret)) (.skip))) (
sq ([
oo 4 (.mv (ki 0))]) (
.ret)))))))), [.slot 4]⟩
def n127 : Notes := { anns := [], frz := [], rgs := [] }
def c128 : CFn := ⟨sq ([
oo 4 (.mv (ki 0))]) (
sq ([
om 7 0,
oo 8 (.call 144 [.t 7] 0 true),
om 5 8]) (
sq ([
om 9 1,
oo 10 (.call 144 [.t 9] 0 true),
om 6 10]) (
.seq (sq ([
om 11 5]) (
.cond (.t 11) (
.seq (sq ([
om 12 6]) (
.cond (.t 12) (
sq ([
oo 4 (.mv (ki 0))]) (
.ret)) (.skip))) (
sq ([
oo 4 (.mv (.k (.d (.i .i64 (-1)))))]) (
.ret))) (.skip))) (
.seq (sq ([
om 13 6]) (
.cond (.t 13) (
sq ([
oo 4 (.mv (ki 1))]) (
.ret)) (.skip))) (
.seq (sq ([
om 14 0,
om 15 1,
oo 16 (.bin .lss (.t 14) (.t 15))]) (
.cond (.t 16) (
sq ([
oo 4 (.mv (.k (.d (.i .i64 (-1)))))]) (
.ret)) (.skip))) (
.seq (sq ([
om 17 0,
om 18 1,
oo 19 (.bin .gtr (.t 17) (.t 18))]) (
.cond (.t 19) (
sq ([
oo 4 (.mv (ki 1))]) (
.ret)) (.skip))) (
sq ([
oo 4 (.mv (ki 0))]) (
.ret)))))))), [.slot 4]⟩
def n128 : Notes := { anns := [], frz := [], rgs := [] }
def c129 : CFn := ⟨sq ([
oo 4 (.mv (ki 0))]) (
sq ([
om 7 0,
oo 8 (.call 145 [.t 7] 0 true),
om 5 8]) (
sq ([
om 9 1,
oo 10 (.call 145 [.t 9] 0 true),
om 6 10]) (
.seq (sq ([
om 11 5]) (
.cond (.t 11) (
.seq (sq ([
om 12 6]) (
.cond (.t 12) (
sq ([
oo 4 (.mv (ki 0))]) (
.ret)) (.skip))) (
sq ([
oo 4 (.mv (.k (.d (.i .i64 (-1)))))]) (
.ret))) (.skip))) (
.seq (sq ([
om 13 6]) (
.cond (.t 13) (
sq ([
oo 4 (.mv (ki 1))]) (
.ret)) (.skip))) (
.seq (sq ([
om 14 0,
om 15 1,
oo 16 (.bin .lss (.t 14) (.t 15))]) (
.cond (.t 16) (
sq ([
oo 4 (.mv (.k (.d (.i .i64 (-1)))))]) (
.ret)) (.skip))) (
.seq (sq ([
om 17 0,
om 18 1,
oo 19 (.bin .gtr (.t 17) (.t 18))]) (
.cond (.t 19) (
sq ([
oo 4 (.mv (ki 1))]) (
.ret)) (.skip))) (
sq ([
oo 4 (.mv (ki 0))]) (
.ret)))))))), [.slot 4]⟩
def n129 : Notes := { anns := [], frz := [], rgs := [] }
def c130 : CFn := ⟨sq ([
oo 6 (.mv (ki 0))]) (
.seq (sq ([
om 11 0,
oo 12 (.len 0 (.t 11)),
oo 13 (.mv (ki 0))]) (
.block 0 (.loop ⟨[0, 1, 2, 11, 12, 13], [], [], [], [], true⟩ (sq ([
oo 14 (.bin .lss (.t 13) (.t 12))]) (
.seq (.cond (.t 14) (
.skip) (.exit 0)) (
.seq (.block 1 (sq ([
om 15 13,
oo 16 (.ia 4 (.t 11) (.t 13)),
ol 17 true 4 16,
oo 8 (.zero (.agg zV)),
om 7 15,
oz (.st 4 (.t 8) (.t 17)) 0]) (
.seq (sq ([
om 18 7,
om 19 1,
oo 20 (.len 0 (.t 19)),
oo 21 (.bin .geq (.t 18) (.t 20))]) (
.cond (.t 21) (
sq ([
oo 6 (.mv (ki 1))]) (
.ret)) (.skip))) (
sq ([
om 22 1,
om 23 7,
oo 24 (.ia 4 (.t 22) (.t 23)),
ol 25 true 4 24,
oo 9 (.zero (.agg zV)),
oz (.st 4 (.t 9) (.t 25)) 0]) (
sq ([
om 26 2,
ol 27 true 4 8,
ol 28 true 4 9,
oo 29 (.callv (.t 26) [.t 27, .t 28] 4 true),
om 10 29]) (
sq ([
om 30 10,
oo 31 (.bin .neq (.t 30) (ki 0))]) (
.cond (.t 31) (
sq ([
om 32 10,
om 6 32]) (
.ret)) (.skip)))))))) (
.region false [
oo 33 (.bin .add (.t 13) (ki 1)),
om 13 33]))))))) (
.seq (sq ([
om 34 0,
oo 35 (.len 0 (.t 34)),
om 36 1,
oo 37 (.len 0 (.t 36)),
oo 38 (.bin .lss (.t 35) (.t 37))]) (
.cond (.t 38) (
sq ([
oo 6 (.mv (.k (.d (.i .i64 (-1)))))]) (
.ret)) (.skip))) (
sq ([
oo 6 (.mv (ki 0))]) (
.ret)))), [.slot 6]⟩
def n130 : Notes := { anns := [⟨[0, 1, 2, 11, 12, 13], [], [], [], [], true⟩], frz := [], rgs := [] }
def c131 : CFn := ⟨sq ([
oo 2 (.mv (ki 0))]) (
.seq (sq ([
om 3 0]) (
.cond (.t 3) (
sq ([
oo 2 (.mv (.k (.d (.i .i64 (-1)))))]) (
.ret)) (.skip))) (
sq ([
oo 2 (.mv (ki 1))]) (
.ret))), [.slot 2]⟩
def n131 : Notes := { anns := [], frz := [], rgs := [] }
def c132 : CFn := ⟨sq ([
oo 1 (.box (.t 0)),
oo 2 (.zero (.agg zV))]) (
sq ([
oo 6 (.fa 3 (.t 1)),
ol 7 false 1 6,
oo 8 (.call 146 [.t 7] 4 false),
om 3 8]) (
.seq (sq ([
om 9 3,
oo 10 (.len 0 (.t 9)),
oo 11 (.mv (ki 0))]) (
.block 0 (.loop ⟨[1, 2, 3, 9, 10, 11], [], [], [], [], true⟩ (sq ([
oo 12 (.bin .lss (.t 11) (.t 10))]) (
.seq (.cond (.t 12) (
.skip) (.exit 0)) (
.seq (.block 1 (sq ([
om 13 11,
oo 14 (.ia 4 (.t 9) (.t 11)),
ol 15 true 4 14,
oo 5 (.zero (.agg zV)),
om 4 13,
oz (.st 4 (.t 5) (.t 15)) 0]) (
.region false [
om 16 3,
om 17 4,
ol 18 true 4 5,
oo 19 (.call 132 [.t 18] 0 true),
oo 20 (.ia 4 (.t 16) (.t 17)),
oz (.st 4 (.t 20) (.t 19)) 0]))) (
.region false [
oo 21 (.bin .add (.t 11) (ki 1)),
om 11 21]))))))) (
sq ([
om 22 3,
oo 23 (.fa 3 (.t 1)),
oz (.st 1 (.t 23) (.t 22)) 0]) (
sq ([
ol 24 true 4 1,
oz (.st 4 (.t 2) (.t 24)) 0]) (
.ret))))), [.cell 2 true 4]⟩
def n132 : Notes := { anns := [⟨[1, 2, 3, 9, 10, 11], [], [], [], [], true⟩], frz := [0, 0, 0, 0, 1], rgs := [] }
def c133 : CFn := ⟨sq ([
oo 4 (.box (.t 1)),
oo 6 (.mv (ki 0)),
oo 7 (.mv (.k (.d (.b false))))]) (
sq ([
om 8 0,
ol 9 true 4 4,
om 10 2,
oo 11 (.call 147 [.t 8, .t 9, .t 10] 4 true),
oo 12 (.ext (.t 11) 0),
oo 13 (.ext (.t 11) 1),
om 6 12,
om 7 13]) (
.ret)), [.slot 6, .slot 7]⟩
def n133 : Notes := { anns := [], frz := [], rgs := [] }
def c135 : CFn := ⟨sq ([
oo 6 (.mv (ki 0)),
oo 7 (.mv (.k (.d (.b false))))]) (
sq ([
om 8 0,
om 9 1,
om 10 2,
oo 11 (.call 150 [.t 8, .t 9, .t 10] 4 true),
oo 12 (.ext (.t 11) 0),
oo 13 (.ext (.t 11) 1),
om 6 12,
om 7 13]) (
.ret)), [.slot 6, .slot 7]⟩
def n135 : Notes := { anns := [], frz := [], rgs := [] }
def c136 : CFn := ⟨sq ([
oo 2 (.box (.t 0)),
oo 4 (.mv (ki 0))]) (
sq ([
ol 5 true 4 2,
oo 6 (.call 137 [.t 5] 0 true),
om 7 1,
oo 8 (.call 129 [.t 6, .t 7] 0 true),
om 4 8]) (
.ret)), [.slot 4]⟩
def n136 : Notes := { anns := [], frz := [], rgs := [] }
def c137 : CFn := ⟨sq ([
oo 1 (.box (.t 0)),
oo 2 (.mv (.k (.d (.s []))))]) (
.seq (sq ([
oo 3 (.fa 3 (.t 1)),
ol 4 false 1 3,
oo 5 (.len 0 (.t 4)),
oo 6 (.bin .eql (.t 5) (ki 0))]) (
.cond (.t 6) (
sq ([
oo 2 (.mv (.k (.d (.s []))))]) (
.ret)) (.skip))) (
sq ([
oo 7 (.fa 3 (.t 1)),
ol 8 false 1 7,
oo 9 (.ia 4 (.t 8) (ki 0)),
oo 10 (.fa 2 (.t 9)),
ol 11 false 1 10,
om 2 11]) (
.ret))), [.slot 2]⟩
def n137 : Notes := { anns := [], frz := [], rgs := [] }
def c139 : CFn := ⟨sq ([
oo 1 (.box (.t 0)),
oo 2 (.mv (.k (.d (.b false))))]) (
.seq (sq ([
oo 3 (.fa 0 (.t 1)),
ol 4 false 1 3]) (
.block 0 (sq ([
oo 6 (.bin .eql (.t 4) (ki 1)),
om 5 6]) (
.cond (.t 5) (
sq ([
oo 2 (.mv (.k (.d (.b true))))]) (
.ret)) (sq ([
oo 8 (.bin .eql (.t 4) (ki 2)),
om 7 8]) (
.cond (.t 7) (
sq ([
oo 9 (.fa 1 (.t 1)),
ol 10 false 1 9,
oo 11 (.bin .eql (.t 10) (ki 0)),
om 12 11,
oh 13 (.fa 1 (.t 1)) 12,
oh 14 (.ld false 1 (.t 13)) 12,
oh 15 (.bin .eql (.t 14) (ki 1)) 12,
oo 16 (.pick (.t 12) (.k (.d (.b true))) (.t 15)),
om 2 16]) (
.ret)) (sq ([
oo 18 (.bin .eql (.t 4) (ki 7)),
om 17 18]) (
.cond (.t 17) (
sq ([
oo 19 (.fa 1 (.t 1)),
ol 20 false 1 19,
oo 21 (.bin .geq (.t 20) (ki 1)),
om 22 21,
og 23 (.fa 1 (.t 1)) 22,
og 24 (.ld false 1 (.t 23)) 22,
og 25 (.bin .leq (.t 24) (ki 13)) 22,
oo 26 (.pick (.t 22) (.t 25) (.k (.d (.b false)))),
om 2 26]) (
.ret)) (.skip))))))))) (
sq ([
oo 27 (.fa 1 (.t 1)),
ol 28 false 1 27,
oo 29 (.bin .eql (.t 28) (ki 0)),
om 2 29]) (
.ret))), [.slot 2]⟩
def n139 : Notes := { anns := [], frz := [], rgs := [] }
def c140 : CFn := ⟨sq ([
oo 1 (.box (.t 0)),
oo 2 (.mv (.k (.d (.b false))))]) (
.seq (sq ([
oo 3 (.fa 0 (.t 1)),
ol 4 false 1 3]) (
.block 0 (sq ([
oo 6 (.bin .eql (.t 4) (ki 4)),
om 5 6]) (
.cond (.t 5) (
sq ([
oo 2 (.mv (.k (.d (.b true))))]) (
.ret)) (sq ([
oo 8 (.bin .eql (.t 4) (ki 5)),
om 7 8]) (
.cond (.t 7) (
sq ([
oo 9 (.fa 3 (.t 1)),
ol 10 false 1 9,
oo 11 (.call 151 [.t 10, (.k (.d (.f 114 [] [])))] 4 true),
om 2 11]) (
.ret)) (sq ([
oo 13 (.bin .eql (.t 4) (ki 6)),
om 12 13]) (
.cond (.t 12) (
sq ([
oo 14 (.fa 3 (.t 1)),
ol 15 false 1 14,
oo 16 (.call 141 [.t 15, (.k (.d (.f 152 [] [])))] 4 true),
oo 17 (.un .not (.t 16)),
om 18 17,
og 19 (.fa 3 (.t 1)) 18,
og 20 (.ld false 1 (.t 19)) 18,
og 21 (.call 151 [.t 20, (.k (.d (.f 154 [] [])))] 4 true) 18,
oo 22 (.pick (.t 18) (.t 21) (.k (.d (.b false)))),
om 2 22]) (
.ret)) (.skip))))))))) (
sq ([
oo 23 (.fa 3 (.t 1)),
ol 24 false 1 23,
oo 25 (.len 0 (.t 24)),
oo 26 (.bin .eql (.t 25) (ki 0)),
om 2 26]) (
.ret))), [.slot 2]⟩
def n140 : Notes := { anns := [], frz := [], rgs := [] }
def c141 : CFn := ⟨sq ([
oo 4 (.mv (.k (.d (.b false))))]) (
sq ([
om 5 0,
om 6 1,
oo 7 (.call 155 [.t 5, .t 6] 4 true),
oo 8 (.bin .geq (.t 7) (ki 0)),
om 4 8]) (
.ret)), [.slot 4]⟩
def n141 : Notes := { anns := [], frz := [], rgs := [] }
def c142 : CFn := ⟨sq ([
oo 1 (.box (.t 0)),
oo 2 (.mv (.k (.d (.b false))))]) (
sq ([
oo 3 (.fa 0 (.t 1)),
ol 4 false 1 3,
oo 5 (.bin .eql (.t 4) (ki 7)),
om 6 5,
oh 7 (.ld true 4 (.t 1)) 6,
oh 8 (.call 125 [.t 7] 0 true) 6,
oh 9 (.un .not (.t 8)) 6,
oo 10 (.pick (.t 6) (.k (.d (.b true))) (.t 9)),
om 2 10]) (
.ret)), [.slot 2]⟩
def n142 : Notes := { anns := [], frz := [], rgs := [] }
def c143 : CFn := ⟨sq ([
oo 2 (.mv (.k (.d (.b false))))]) (
sq ([
om 3 0,
om 4 0,
oo 5 (.bin .neq (.t 3) (.t 4)),
om 2 5]) (
.ret)), [.slot 2]⟩
def n143 : Notes := { anns := [], frz := [], rgs := [] }
def c144 : CFn := ⟨sq ([
oo 2 (.mv (.k (.d (.b false))))]) (
sq ([
om 3 0,
om 4 0,
oo 5 (.bin .neq (.t 3) (.t 4)),
om 2 5]) (
.ret)), [.slot 2]⟩
def n144 : Notes := { anns := [], frz := [], rgs := [] }
def c145 : CFn := ⟨sq ([
oo 2 (.mv (.k (.d (.b false))))]) (
sq ([
om 3 0,
om 4 0,
oo 5 (.bin .neq (.t 3) (.t 4)),
om 2 5]) (
.ret)), [.slot 2]⟩
def n145 : Notes := { anns := [], frz := [], rgs := [] }
def c147 : CFn := ⟨sq ([
oo 4 (.box (.t 1)),
oo 6 (.mv (ki 0)),
oo 7 (.mv (.k (.d (.b false))))]) (
sq ([
om 12 0,
oo 13 (.len 0 (.t 12)),
om 8 13]) (
sq ([
om 14 8,
oo 9 (.mv (ki 0)),
om 10 14]) (
.seq (.block 0 (.loop ⟨[0, 2, 4, 8, 9, 10], [], [], [], [], true⟩ (.seq (sq ([
om 15 9,
om 16 10,
oo 17 (.bin .lss (.t 15) (.t 16))]) (
.cond (.t 17) (
.skip) (.exit 0))) (
.block 1 (sq ([
om 18 9,
om 19 10,
oo 20 (.bin .add (.t 18) (.t 19)),
oo 21 (.conv .u64 (.t 20)),
oo 22 (.bin .shr (.t 21) (.k (.d (.i .u64 1)))),
oo 23 (.conv .i64 (.t 22)),
om 11 23]) (
.seq (.region true [
om 24 2,
om 25 0,
om 26 11,
ow 27 (.ia 4 (.t 25) (.t 26)) 6,
ow 28 (.ld true 4 (.t 27)) 14,
ol 29 true 4 4,
ow 30 (.callv (.t 24) [.t 28, .t 29] 4 true) 63,
ow 31 (.bin .lss (.t 30) (ki 0)) 127]) (
.cond (.t 31) (
.region false [
om 32 11,
oo 33 (.bin .add (.t 32) (ki 1)),
om 9 33]) (.region false [
om 34 11,
om 10 34])))))))) (
.seq (.region true [
om 35 9,
om 36 9,
om 37 8,
ow 38 (.bin .lss (.t 36) (.t 37)) 6,
ow 39 (.mv (.t 38)) 14,
⟨some 40, .mv (.t 2), (some (39, true)), 30⟩,
⟨some 41, .mv (.t 0), (some (39, true)), 30⟩,
⟨some 42, .mv (.t 9), (some (39, true)), 30⟩,
⟨some 43, .ia 4 (.t 41) (.t 42), (some (39, true)), 222⟩,
⟨some 44, .ld true 4 (.t 43), (some (39, true)), 478⟩,
⟨some 45, .ld true 4 (.t 4), (some (39, true)), 30⟩,
⟨some 46, .callv (.t 40) [.t 44, .t 45] 4 true, (some (39, true)), 2046⟩,
⟨some 47, .bin .eql (.t 46) (ki 0), (some (39, true)), 4094⟩,
ow 48 (.pick (.t 39) (.t 47) (.k (.d (.b false)))) 8190,
ow 6 (.mv (.t 35)) 4095,
ow 7 (.mv (.t 48)) 32767]) (
.ret))))), [.slot 6, .slot 7]⟩
def n147 : Notes := { anns := [⟨[0, 2, 4, 8, 9, 10], [], [], [], [], true⟩], frz := [], rgs := [] }
def c150 : CFn := ⟨sq ([
oo 6 (.mv (ki 0)),
oo 7 (.mv (.k (.d (.b false))))]) (
sq ([
om 12 0,
oo 13 (.len 0 (.t 12)),
om 8 13]) (
sq ([
om 14 8,
oo 9 (.mv (ki 0)),
om 10 14]) (
.seq (.block 0 (.loop ⟨[0, 1, 2, 8, 9, 10], [], [], [], [], true⟩ (.seq (sq ([
om 15 9,
om 16 10,
oo 17 (.bin .lss (.t 15) (.t 16))]) (
.cond (.t 17) (
.skip) (.exit 0))) (
.block 1 (sq ([
om 18 9,
om 19 10,
oo 20 (.bin .add (.t 18) (.t 19)),
oo 21 (.conv .u64 (.t 20)),
oo 22 (.bin .shr (.t 21) (.k (.d (.i .u64 1)))),
oo 23 (.conv .i64 (.t 22)),
om 11 23]) (
sq ([
om 24 2,
om 25 0,
om 26 11,
oo 27 (.ia 4 (.t 25) (.t 26)),
ol 28 true 4 27,
om 29 1,
oo 30 (.callv (.t 24) [.t 28, .t 29] 4 true),
oo 31 (.bin .lss (.t 30) (ki 0))]) (
.cond (.t 31) (
.region false [
om 32 11,
oo 33 (.bin .add (.t 32) (ki 1)),
om 9 33]) (.region false [
om 34 11,
om 10 34])))))))) (
sq ([
om 35 9,
om 36 9,
om 37 8,
oo 38 (.bin .lss (.t 36) (.t 37)),
om 39 38,
og 40 (.mv (.t 2)) 39,
og 41 (.mv (.t 0)) 39,
og 42 (.mv (.t 9)) 39,
og 43 (.ia 4 (.t 41) (.t 42)) 39,
og 44 (.ld true 4 (.t 43)) 39,
og 45 (.mv (.t 1)) 39,
og 46 (.callv (.t 40) [.t 44, .t 45] 4 true) 39,
og 47 (.bin .eql (.t 46) (ki 0)) 39,
oo 48 (.pick (.t 39) (.t 47) (.k (.d (.b false)))),
om 6 35,
om 7 48]) (
.ret))))), [.slot 6, .slot 7]⟩
def n150 : Notes := { anns := [⟨[0, 1, 2, 8, 9, 10], [], [], [], [], true⟩], frz := [], rgs := [] }
def c151 : CFn := ⟨sq ([
oo 4 (.mv (.k (.d (.b false))))]) (
.seq (sq ([
om 6 0,
oo 7 (.len 0 (.t 6)),
oo 8 (.mv (ki 0))]) (
.block 0 (.loop ⟨[0, 1, 7, 8], [], [], [], [], true⟩ (sq ([
oo 9 (.bin .lss (.t 8) (.t 7))]) (
.seq (.cond (.t 9) (
.skip) (.exit 0)) (
.seq (.block 1 (sq ([
om 10 8,
om 5 10]) (
.seq (.region true [
om 11 5,
ow 12 (.bin .gtr (.t 11) (ki 0)) 1,
ow 13 (.mv (.t 12)) 3,
⟨some 14, .mv (.t 1), (some (13, true)), 7⟩,
⟨some 15, .mv (.t 0), (some (13, true)), 7⟩,
⟨some 16, .mv (.t 5), (some (13, true)), 7⟩,
⟨some 17, .bin .sub (.t 16) (ki 1), (some (13, true)), 39⟩,
⟨some 18, .ia 4 (.t 15) (.t 17), (some (13, true)), 119⟩,
⟨some 19, .ld true 4 (.t 18), (some (13, true)), 247⟩,
⟨some 20, .mv (.t 0), (some (13, true)), 7⟩,
⟨some 21, .mv (.t 5), (some (13, true)), 7⟩,
⟨some 22, .ia 4 (.t 20) (.t 21), (some (13, true)), 1543⟩,
⟨some 23, .ld true 4 (.t 22), (some (13, true)), 3591⟩,
⟨some 24, .callv (.t 14) [.t 19, .t 23] 4 true, (some (13, true)), 8191⟩,
⟨some 25, .bin .geq (.t 24) (ki 0), (some (13, true)), 16383⟩,
ow 26 (.pick (.t 13) (.t 25) (.k (.d (.b false)))) 32767]) (
.cond (.t 26) (
sq ([
oo 4 (.mv (.k (.d (.b false))))]) (
.ret)) (.skip))))) (
.region false [
oo 27 (.bin .add (.t 8) (ki 1)),
om 8 27]))))))) (
sq ([
oo 4 (.mv (.k (.d (.b true))))]) (
.ret))), [.slot 4]⟩
def n151 : Notes := { anns := [⟨[0, 1, 7, 8], [], [], [], [], true⟩], frz := [], rgs := [] }
def c152 : CFn := ⟨sq ([
oo 1 (.box (.t 0)),
oo 2 (.mv (.k (.d (.b false))))]) (
sq ([
ol 3 true 4 1,
oo 4 (.call 153 [.t 3] 0 true),
oo 5 (.un .not (.t 4)),
om 2 5]) (
.ret)), [.slot 2]⟩
def n152 : Notes := { anns := [], frz := [], rgs := [] }
def c153 : CFn := ⟨sq ([
oo 1 (.box (.t 0)),
oo 2 (.mv (.k (.d (.b false))))]) (
sq ([
oo 3 (.fa 0 (.t 1)),
ol 4 false 1 3,
oo 5 (.bin .eql (.t 4) (ki 4)),
om 6 5,
og 7 (.fa 3 (.t 1)) 6,
og 8 (.ld false 1 (.t 7)) 6,
og 9 (.len 0 (.t 8)) 6,
og 10 (.bin .eql (.t 9) (ki 2)) 6,
oo 11 (.pick (.t 6) (.t 10) (.k (.d (.b false)))),
om 12 11,
og 13 (.fa 3 (.t 1)) 12,
og 14 (.ld false 1 (.t 13)) 12,
og 15 (.ia 4 (.t 14) (ki 0)) 12,
og 16 (.fa 0 (.t 15)) 12,
og 17 (.ld false 1 (.t 16)) 12,
og 18 (.bin .eql (.t 17) (ki 3)) 12,
oo 19 (.pick (.t 12) (.t 18) (.k (.d (.b false)))),
om 2 19]) (
.ret)), [.slot 2]⟩
def n153 : Notes := { anns := [], frz := [], rgs := [] }
def c154 : CFn := ⟨sq ([
oo 2 (.box (.t 0)),
oo 3 (.box (.t 1)),
oo 4 (.mv (ki 0))]) (
.seq (.region true [
ol 5 true 4 2,
ow 6 (.call 137 [.t 5] 0 true) 1,
ol 7 true 4 3,
ow 8 (.call 137 [.t 7] 0 true) 7,
ow 9 (.call 129 [.t 6, .t 8] 0 true) 15,
ow 4 (.mv (.t 9)) 31]) (
.ret)), [.slot 4]⟩
def n154 : Notes := { anns := [], frz := [], rgs := [] }
def c155 : CFn := ⟨sq ([
oo 4 (.mv (ki 0))]) (
.seq (sq ([
om 6 0,
oo 7 (.len 0 (.t 6)),
oo 8 (.mv (ki 0))]) (
.block 0 (.loop ⟨[0, 1, 7, 8], [], [], [], [], true⟩ (sq ([
oo 9 (.bin .lss (.t 8) (.t 7))]) (
.seq (.cond (.t 9) (
.skip) (.exit 0)) (
.seq (.block 1 (sq ([
om 10 8,
om 5 10]) (
sq ([
om 11 1,
om 12 0,
om 13 5,
oo 14 (.ia 4 (.t 12) (.t 13)),
ol 15 true 4 14,
oo 16 (.callv (.t 11) [.t 15] 4 true)]) (
.cond (.t 16) (
sq ([
om 17 5,
om 4 17]) (
.ret)) (.skip))))) (
.region false [
oo 18 (.bin .add (.t 8) (ki 1)),
om 8 18]))))))) (
sq ([
oo 4 (.mv (.k (.d (.i .i64 (-1)))))]) (
.ret))), [.slot 4]⟩
def n155 : Notes := { anns := [⟨[0, 1, 7, 8], [], [], [], [], true⟩], frz := [], rgs := [] }
def c192 : CFn := ⟨sq ([
oo 1 (.box (.t 0)),
oo 2 (.mv (.k (.nil 2)))]) (
.seq (sq ([
oo 5 (.fa 0 (.t 1)),
ol 6 false 1 5,
oo 7 (.bin .eql (.t 6) (ki 1))]) (
.cond (.t 7) (
.region false [
om 8 2,
oo 9 (.fa 5 (.t 1)),
ol 10 false 1 9,
oo 11 (.fa 6 (.t 1)),
ol 12 false 1 11,
oo 13 (.build [(.d (.i .i64 0)), (.d (.i .i64 0))] [(0, 1, .t 10), (1, 1, .t 12)]),
oo 14 (.bsl 2 1 [(.i .i64 0), (.i .i64 0)] [(0, .t 13)]),
oo 15 (.app 2 16 (.t 8) (.t 14)),
om 2 15]) (.skip))) (
.seq (sq ([
oo 16 (.fa 7 (.t 1)),
ol 17 false 1 16,
oo 18 (.len 0 (.t 17)),
oo 19 (.mv (ki 0))]) (
.block 0 (.loop ⟨[2, 17, 18, 19], [2], [], [], [], true⟩ (sq ([
oo 20 (.bin .lss (.t 19) (.t 18))]) (
.seq (.cond (.t 20) (
.skip) (.exit 0)) (
.seq (.block 1 (sq ([
oo 21 (.ia 8 (.t 17) (.t 19)),
ol 22 true 8 21,
oo 4 (.zero (.agg zE)),
oz (.st 8 (.t 4) (.t 22)) 0]) (
.region false [
om 23 2,
ol 24 true 8 4,
oo 25 (.call 192 [.t 24] 0 true),
oo 26 (.app 2 16 (.t 23) (.t 25)),
om 2 26]))) (
.region false [
oo 27 (.bin .add (.t 19) (ki 1)),
om 19 27]))))))) (
sq ([
om 28 2,
om 2 28]) (
.ret)))), [.slot 2]⟩
def n192 : Notes := { anns := [⟨[2, 17, 18, 19], [2], [], [], [], true⟩], frz := [], rgs := [] }
def c210 : CFn := ⟨sq ([
oo 1 (.box (.t 0)),
oo 2 (.mv (.k (.d (.b false))))]) (
sq ([
ol 3 true 8 1,
oo 4 (.call 228 [.t 3, (ki 12)] 0 true),
om 2 4]) (
.ret)), [.slot 2]⟩
def n210 : Notes := { anns := [], frz := [], rgs := [] }
def c228 : CFn := ⟨sq ([
oo 2 (.box (.t 0)),
oo 3 (.box (.t 1)),
oo 4 (.mv (.k (.d (.b false))))]) (
sq ([
oo 6 (.fa 0 (.t 2)),
ol 7 false 1 6,
oo 8 (.call 236 [.t 7] 0 true),
om 5 8]) (
.seq (sq ([
ol 9 false 1 3,
oo 10 (.bin .lss (.t 9) (ki 1)),
om 11 10,
oh 12 (.mv (.t 5)) 11,
oh 13 (.bin .eql (.t 12) (.k (.d (.i .i64 (-2))))) 11,
oo 14 (.pick (.t 11) (.k (.d (.b true))) (.t 13)),
om 15 14,
oh 16 (.mv (.t 5)) 15,
oh 17 (.bin .geq (.t 16) (ki 0)) 15,
oh 18 (.mv (.t 17)) 15,
og 19 (.fa 7 (.t 2)) 18,
og 20 (.ld false 1 (.t 19)) 18,
og 21 (.len 0 (.t 20)) 18,
og 22 (.mv (.t 5)) 18,
og 23 (.bin .neq (.t 21) (.t 22)) 18,
oh 24 (.pick (.t 18) (.t 23) (.k (.d (.b false)))) 15,
oo 25 (.pick (.t 15) (.k (.d (.b true))) (.t 24)),
om 26 25,
oh 27 (.fa 7 (.t 2)) 26,
oh 28 (.ld false 1 (.t 27)) 26,
oh 29 (.len 0 (.t 28)) 26,
oh 30 (.bin .gtr (.t 29) (ki 4)) 26,
oo 31 (.pick (.t 26) (.k (.d (.b true))) (.t 30)),
om 32 31,
oh 33 (.ld true 8 (.t 2)) 32,
oh 34 (.call 237 [.t 33] 0 true) 32,
oh 35 (.un .not (.t 34)) 32,
oo 36 (.pick (.t 32) (.k (.d (.b true))) (.t 35))]) (
.cond (.t 36) (
sq ([
oo 4 (.mv (.k (.d (.b false))))]) (
.ret)) (.skip))) (
sq ([
oo 37 (.fa 7 (.t 2)),
ol 38 false 1 37,
oo 39 (.mkf 238 [] [.t 3] true),
oo 40 (.call 229 [.t 38, .t 39] 4 true),
oo 41 (.un .not (.t 40)),
om 4 41]) (
.ret)))), [.slot 4]⟩
def n228 : Notes := { anns := [], frz := [0, 0, 0, 0, 0, 0, 0, 0, 0, 0, 0, 0, 0, 0, 0, 0, 0, 0, 0, 0, 0, 0, 0, 0, 0, 0, 0, 0, 0, 0, 0, 0, 0, 0, 0, 0, 0, 0, 1], rgs := [] }
def c229 : CFn := ⟨sq ([
oo 4 (.mv (.k (.d (.b false))))]) (
sq ([
om 5 0,
om 6 1,
oo 7 (.call 239 [.t 5, .t 6] 4 true),
oo 8 (.bin .geq (.t 7) (ki 0)),
om 4 8]) (
.ret)), [.slot 4]⟩
def n229 : Notes := { anns := [], frz := [], rgs := [] }
def c236 : CFn := ⟨sq ([
oo 2 (.mv (ki 0))]) (
.seq (sq ([
om 3 0]) (
.block 0 (.seq (sq ([
oo 5 (.bin .eql (.t 3) (ki 0)),
om 4 5]) (
.cond (.t 4) (
.skip) (sq ([
oo 6 (.bin .eql (.t 3) (ki 1)),
om 4 6]) (
.cond (.t 4) (
.skip) (sq ([
oo 7 (.bin .eql (.t 3) (ki 2)),
om 4 7]) (
.cond (.t 4) (
.skip) (sq ([
oo 8 (.bin .eql (.t 3) (ki 3)),
om 4 8]) (
.cond (.t 4) (
.skip) (sq ([
oo 9 (.bin .eql (.t 3) (ki 21)),
om 4 9]) (
.cond (.t 4) (
.skip) (.region false [
oo 10 (.bin .eql (.t 3) (ki 22)),
om 4 10]))))))))))) (
.cond (.t 4) (
sq ([
oo 2 (.mv (ki 0))]) (
.ret)) (.seq (sq ([
oo 12 (.bin .eql (.t 3) (ki 11)),
om 11 12]) (
.cond (.t 11) (
.skip) (.region false [
oo 13 (.bin .eql (.t 3) (ki 15)),
om 11 13]))) (
.cond (.t 11) (
sq ([
oo 2 (.mv (ki 1))]) (
.ret)) (.seq (sq ([
oo 15 (.bin .eql (.t 3) (ki 12)),
om 14 15]) (
.cond (.t 14) (
.skip) (.region false [
oo 16 (.bin .eql (.t 3) (ki 16)),
om 14 16]))) (
.cond (.t 14) (
sq ([
oo 2 (.mv (ki 3))]) (
.ret)) (sq ([
oo 18 (.bin .eql (.t 3) (ki 14)),
om 17 18]) (
.cond (.t 17) (
sq ([
oo 2 (.mv (.k (.d (.i .i64 (-1)))))]) (
.ret)) (.skip))))))))))) (
.seq (sq ([
om 19 0,
oo 20 (.bin .gtr (.t 19) (ki 3)),
om 21 20,
og 22 (.mv (.t 0)) 21,
og 23 (.bin .lss (.t 22) (ki 21)) 21,
oo 24 (.pick (.t 21) (.t 23) (.k (.d (.b false))))]) (
.cond (.t 24) (
sq ([
oo 2 (.mv (ki 2))]) (
.ret)) (.skip))) (
sq ([
oo 2 (.mv (.k (.d (.i .i64 (-2)))))]) (
.ret)))), [.slot 2]⟩
def n236 : Notes := { anns := [], frz := [], rgs := [] }
def c237 : CFn := ⟨sq ([
oo 1 (.box (.t 0)),
oo 2 (.mv (.k (.d (.b false))))]) (
.seq (sq ([
oo 5 (.fa 0 (.t 1)),
ol 6 false 1 5,
oo 7 (.bin .eql (.t 6) (ki 0))]) (
.cond (.t 7) (
sq ([
oo 8 (.fa 1 (.t 1)),
oo 9 (.fa 0 (.t 8)),
ol 10 false 1 9,
oo 11 (.bin .neq (.t 10) (ki 7)),
om 12 11,
og 13 (.fa 1 (.t 1)) 12,
og 14 (.ld true 4 (.t 13)) 12,
og 15 (.call 111 [.t 14] 0 true) 12,
oo 16 (.pick (.t 12) (.t 15) (.k (.d (.b false)))),
om 17 16,
og 18 (.fa 5 (.t 1)) 17,
og 19 (.ld false 1 (.t 18)) 17,
og 20 (.bin .eql (.t 19) (ki 0)) 17,
oo 21 (.pick (.t 17) (.t 20) (.k (.d (.b false)))),
om 22 21,
og 23 (.fa 6 (.t 1)) 22,
og 24 (.ld false 1 (.t 23)) 22,
og 25 (.bin .eql (.t 24) (ki 0)) 22,
oo 26 (.pick (.t 22) (.t 25) (.k (.d (.b false)))),
om 2 26]) (
.ret)) (.skip))) (
sq ([
oo 3 (.mv (ki 0)),
oo 4 (.mv (ki 0))]) (
.seq (sq ([
oo 27 (.fa 0 (.t 1)),
ol 28 false 1 27]) (
.block 0 (sq ([
oo 30 (.bin .eql (.t 28) (ki 1)),
om 29 30]) (
.cond (.t 29) (
.region false [
oo 3 (.mv (ki 5)),
oo 4 (.mv (ki 7))]) (.seq (sq ([
oo 32 (.bin .eql (.t 28) (ki 2)),
om 31 32]) (
.cond (.t 31) (
.skip) (.region false [
oo 33 (.bin .eql (.t 28) (ki 3)),
om 31 33]))) (
.cond (.t 31) (
.region false [
oo 3 (.mv (ki 5))]) (.skip))))))) (
sq ([
oo 34 (.fa 1 (.t 1)),
ol 35 true 4 34,
oo 36 (.call 241 [.t 35] 0 true),
om 37 36,
og 38 (.fa 5 (.t 1)) 37,
og 39 (.ld false 1 (.t 38)) 37,
og 40 (.bin .geq (.t 39) (ki 0)) 37,
oo 41 (.pick (.t 37) (.t 40) (.k (.d (.b false)))),
om 42 41,
og 43 (.fa 5 (.t 1)) 42,
og 44 (.ld false 1 (.t 43)) 42,
og 45 (.mv (.t 3)) 42,
og 46 (.bin .leq (.t 44) (.t 45)) 42,
oo 47 (.pick (.t 42) (.t 46) (.k (.d (.b false)))),
om 48 47,
og 49 (.fa 6 (.t 1)) 48,
og 50 (.ld false 1 (.t 49)) 48,
og 51 (.bin .geq (.t 50) (ki 0)) 48,
oo 52 (.pick (.t 48) (.t 51) (.k (.d (.b false)))),
om 53 52,
og 54 (.fa 6 (.t 1)) 53,
og 55 (.ld false 1 (.t 54)) 53,
og 56 (.mv (.t 4)) 53,
og 57 (.bin .leq (.t 55) (.t 56)) 53,
oo 58 (.pick (.t 53) (.t 57) (.k (.d (.b false)))),
om 2 58]) (
.ret))))), [.slot 2]⟩
def n237 : Notes := { anns := [], frz := [], rgs := [] }
def c238 : CFn := ⟨sq ([
oo 2 (.box (.t 0)),
oo 3 (.mv (.k (.d (.b false))))]) (
sq ([
ol 4 true 8 2,
ol 5 false 1 1,
oo 6 (.bin .sub (.t 5) (ki 1)),
oo 7 (.call 228 [.t 4, .t 6] 0 true),
oo 8 (.un .not (.t 7)),
om 3 8]) (
.ret)), [.slot 3]⟩
def n238 : Notes := { anns := [], frz := [], rgs := [] }
def c239 : CFn := ⟨sq ([
oo 4 (.mv (ki 0))]) (
.seq (sq ([
om 6 0,
oo 7 (.len 0 (.t 6)),
oo 8 (.mv (ki 0))]) (
.block 0 (.loop ⟨[0, 1, 7, 8], [], [], [], [], true⟩ (sq ([
oo 9 (.bin .lss (.t 8) (.t 7))]) (
.seq (.cond (.t 9) (
.skip) (.exit 0)) (
.seq (.block 1 (sq ([
om 10 8,
om 5 10]) (
sq ([
om 11 1,
om 12 0,
om 13 5,
oo 14 (.ia 8 (.t 12) (.t 13)),
ol 15 true 8 14,
oo 16 (.callv (.t 11) [.t 15] 4 true)]) (
.cond (.t 16) (
sq ([
om 17 5,
om 4 17]) (
.ret)) (.skip))))) (
.region false [
oo 18 (.bin .add (.t 8) (ki 1)),
om 8 18]))))))) (
sq ([
oo 4 (.mv (.k (.d (.i .i64 (-1)))))]) (
.ret))), [.slot 4]⟩
def n239 : Notes := { anns := [⟨[0, 1, 7, 8], [], [], [], [], true⟩], frz := [], rgs := [] }
def c241 : CFn := ⟨sq ([
oo 1 (.box (.t 0)),
oo 2 (.mv (.k (.d (.b false))))]) (
sq ([
oo 3 (.fa 0 (.t 1)),
ol 4 false 1 3,
oo 5 (.bin .eql (.t 4) (ki 0)),
om 6 5,
og 7 (.fa 1 (.t 1)) 6,
og 8 (.ld false 1 (.t 7)) 6,
og 9 (.bin .eql (.t 8) (ki 0)) 6,
oo 10 (.pick (.t 6) (.t 9) (.k (.d (.b false)))),
om 11 10,
og 12 (.fa 2 (.t 1)) 11,
og 13 (.ld false 1 (.t 12)) 11,
og 14 (.bin .eql (.t 13) (.k (.d (.s [])))) 11,
oo 15 (.pick (.t 11) (.t 14) (.k (.d (.b false)))),
om 16 15,
og 17 (.fa 3 (.t 1)) 16,
og 18 (.ld false 1 (.t 17)) 16,
og 19 (.len 0 (.t 18)) 16,
og 20 (.bin .eql (.t 19) (ki 0)) 16,
oo 21 (.pick (.t 16) (.t 20) (.k (.d (.b false)))),
om 2 21]) (
.ret)), [.slot 2]⟩
def n241 : Notes := { anns := [], frz := [], rgs := [] }
def c261 : CFn := ⟨sq ([
oo 2 (.mv (.k (.d (.b false))))]) (
.seq (sq ([
oo 13 (.call 264 [] 0 true),
oo 14 (.un .not (.t 13))]) (
.cond (.t 14) (
sq ([
oo 2 (.mv (.k (.d (.b false))))]) (
.ret)) (.skip))) (
.seq (sq ([
om 15 0,
oo 16 (.len 0 (.t 15)),
oo 17 (.bin .gtr (.t 16) (ki 11))]) (
.cond (.t 17) (
sq ([
oo 2 (.mv (.k (.d (.b true))))]) (
.ret)) (.skip))) (
sq ([
oo 18 (.build zE [(0, 1, (ki 22))]),
oo 3 (.zero (.agg zE)),
oz (.st 8 (.t 3) (.t 18)) 0]) (
sq ([
oo 4 (.zero (.agg [(.d (.i .i64 0)), (.d (.i .i64 0)), (.d (.i .i64 0)), (.d (.i .i64 0))]))]) (
sq ([
oo 5 (.mv (ki 0))]) (
.seq (sq ([
oo 6 (.mv (ki 0))]) (
.block 0 (.loop ⟨[0, 3, 4, 5, 6], [], [], [], [(3, 4), (3, 7)], true⟩ (.seq (sq ([
om 19 6,
om 20 0,
oo 21 (.len 0 (.t 20)),
oo 22 (.bin .lss (.t 19) (.t 21)),
om 23 22,
og 24 (.mv (.t 6)) 23,
og 25 (.bin .lss (.t 24) (ki 10)) 23,
oo 26 (.pick (.t 23) (.t 25) (.k (.d (.b false))))]) (
.cond (.t 26) (
.skip) (.exit 0))) (
.seq (.block 1 (sq ([
om 29 0,
om 30 6,
oo 31 (.ia 2 (.t 29) (.t 30)),
oo 32 (.iaa 2 1 (.t 31) (ki 0)),
ol 33 false 1 32,
oo 34 (.bin .rem (.t 33) (.k (.d (.i .u8 4)))),
oo 35 (.conv .i64 (.t 34)),
om 7 35]) (
.seq (.region true [
ol 36 true 8 3,
om 37 7,
ow 38 (.bin .add (ki 97) (.t 37)) 2,
ow 39 (.conv .u8 (.t 38)) 6,
ow 40 (.bsl 1 1 [(.i .u8 0)] [(0, .t 39)]) 14,
ow 41 (.bts (.t 40)) 30,
ow 42 (.build zV [(0, 1, (ki 3)), (2, 1, .t 41)]) 62,
ow 43 (.call 271 [.t 42] 0 true) 126,
om 44 0,
om 45 6,
ow 46 (.ia 2 (.t 44) (.t 45)) 768,
ow 47 (.iaa 2 1 (.t 46) (ki 1)) 1792,
ow 48 (.ld false 1 (.t 47)) 3840,
ow 49 (.conv .i64 (.t 48)) 7936,
ow 50 (.bin .add (.t 49) (ki 1)) 16128,
ow 51 (.build zV [(0, 1, (ki 1)), (1, 1, .t 50)]) 32512,
ow 52 (.call 271 [.t 51] 0 true) 65534,
ow 53 (.bsl 8 3 [(.i .i64 0), (.i .i64 0), (.i .i64 0), (.s []), (.l 4 []), (.i .i64 0), (.i .i64 0), (.l 8 [])] [(0, .t 36), (1, .t 43), (2, .t 52)]) 131071,
ow 54 (.call 272 [(ki 16), (.t 53)] 0 true) 262143,
oz (.st 8 (.t 3) (.t 54)) 524287]) (
.seq (sq ([
om 55 7,
oo 56 (.iaa 4 1 (.t 4) (.t 55)),
ol 57 false 1 56,
oo 58 (.bin .eql (.t 57) (ki 0))]) (
.cond (.t 58) (
.region false [
om 59 5,
oo 60 (.bin .add (.t 59) (ki 1)),
om 5 60]) (.skip))) (
.region false [
om 61 7,
om 62 0,
om 63 6,
oo 64 (.ia 2 (.t 62) (.t 63)),
oo 65 (.iaa 2 1 (.t 64) (ki 1)),
ol 66 false 1 65,
oo 67 (.conv .i64 (.t 66)),
oo 68 (.bin .add (.t 67) (ki 1)),
oo 69 (.iaa 4 1 (.t 4) (.t 61)),
oz (.st 1 (.t 69) (.t 68)) 0]))))) (
.region false [
om 27 6,
oo 28 (.bin .add (.t 27) (ki 1)),
om 6 28])))))) (
sq ([
ol 70 true 8 3,
oo 71 (.call 269 [.t 70, (.k (.nil 1)), (.k (.nil 1))] 0 true),
oo 8 (.zero (.agg zV)),
oz (.st 4 (.t 8) (.t 71)) 0]) (
.seq (sq ([
oo 72 (.fa 0 (.t 8)),
ol 73 false 1 72,
oo 74 (.bin .neq (.t 73) (ki 6)),
om 75 74,
oh 76 (.ld true 4 (.t 8)) 75,
oh 77 (.call 110 [.t 76] 0 true) 75,
oh 78 (.un .not (.t 77)) 75,
oo 79 (.pick (.t 75) (.k (.d (.b true))) (.t 78)),
om 80 79,
oh 81 (.fa 3 (.t 8)) 80,
oh 82 (.ld false 1 (.t 81)) 80,
oh 83 (.len 0 (.t 82)) 80,
oh 84 (.mv (.t 5)) 80,
oh 85 (.bin .neq (.t 83) (.t 84)) 80,
oo 86 (.pick (.t 80) (.k (.d (.b true))) (.t 85))]) (
.cond (.t 86) (
sq ([
oo 2 (.mv (.k (.d (.b false))))]) (
.ret)) (.skip))) (
.seq (sq ([
oo 9 (.mv (ki 0))]) (
.block 2 (.loop ⟨[4, 8, 9], [], [], [], [], true⟩ (.seq (sq ([
om 87 9,
oo 88 (.bin .lss (.t 87) (ki 4))]) (
.cond (.t 88) (
.skip) (.exit 2))) (
.seq (.block 3 (sq ([
om 91 9,
oo 92 (.bin .add (ki 97) (.t 91)),
oo 93 (.conv .u8 (.t 92)),
oo 94 (.bsl 1 1 [(.i .u8 0)] [(0, .t 93)]),
oo 95 (.bts (.t 94)),
oo 96 (.build zV [(0, 1, (ki 3)), (2, 1, .t 95)]),
oo 97 (.call 271 [.t 96] 0 true),
oo 10 (.zero (.agg zE)),
oz (.st 8 (.t 10) (.t 97)) 0]) (
.seq (.region true [
ol 98 true 4 8,
ow 99 (.call 271 [.t 98] 0 true) 1,
ol 100 true 8 10,
ow 101 (.bsl 8 2 [(.i .i64 0), (.i .i64 0), (.i .i64 0), (.s []), (.l 4 []), (.i .i64 0), (.i .i64 0), (.l 8 [])] [(0, .t 99), (1, .t 100)]) 7,
ow 102 (.call 272 [(ki 17), (.t 101)] 0 true) 15,
ow 103 (.call 269 [.t 102, (.k (.nil 1)), (.k (.nil 1))] 0 true) 31,
oo 11 (.zero (.agg zV)),
oz (.st 4 (.t 11) (.t 103)) 127]) (
.seq (.region true [
ol 104 true 4 8,
ow 105 (.call 271 [.t 104] 0 true) 1,
ol 106 true 8 10,
ow 107 (.bsl 8 2 [(.i .i64 0), (.i .i64 0), (.i .i64 0), (.s []), (.l 4 []), (.i .i64 0), (.i .i64 0), (.l 8 [])] [(0, .t 105), (1, .t 106)]) 7,
ow 108 (.call 272 [(ki 18), (.t 107)] 0 true) 15,
ow 109 (.call 269 [.t 108, (.k (.nil 1)), (.k (.nil 1))] 0 true) 31,
oo 12 (.zero (.agg zV)),
oz (.st 4 (.t 12) (.t 109)) 127]) (
.seq (.region true [
om 110 9,
ow 111 (.iaa 4 1 (.t 4) (.t 110)) 1,
ow 112 (.ld false 1 (.t 111)) 3,
ow 113 (.bin .eql (.t 112) (ki 0)) 7,
ow 114 (.mv (.t 113)) 15,
⟨some 115, .fa 0 (.t 11), (some (114, true)), 31⟩,
⟨some 116, .ld false 1 (.t 115), (some (114, true)), 63⟩,
⟨some 117, .bin .neq (.t 116) (ki 7), (some (114, true)), 127⟩,
⟨some 118, .mv (.t 117), (some (114, true)), 255⟩,
⟨some 119, .fa 1 (.t 11), (some (118, false)), 511⟩,
⟨some 120, .ld false 1 (.t 119), (some (118, false)), 1023⟩,
⟨some 121, .bin .neq (.t 120) (ki 7), (some (118, false)), 2047⟩,
⟨some 122, .pick (.t 118) (.k (.d (.b true))) (.t 121), (some (114, true)), 4095⟩,
⟨some 123, .mv (.t 122), (some (114, true)), 8191⟩,
⟨some 124, .fa 1 (.t 12), (some (123, false)), 16383⟩,
⟨some 125, .ld false 1 (.t 124), (some (123, false)), 32767⟩,
⟨some 126, .bin .neq (.t 125) (ki 0), (some (123, false)), 65535⟩,
⟨some 127, .pick (.t 123) (.k (.d (.b true))) (.t 126), (some (114, true)), 131071⟩,
ow 128 (.pick (.t 114) (.t 127) (.k (.d (.b false)))) 262143,
ow 129 (.mv (.t 128)) 524287,
⟨some 130, .mv (.t 9), (some (129, false)), 1048575⟩,
⟨some 131, .iaa 4 1 (.t 4) (.t 130), (some (129, false)), 2097151⟩,
⟨some 132, .ld false 1 (.t 131), (some (129, false)), 4194303⟩,
⟨some 133, .bin .gtr (.t 132) (ki 0), (some (129, false)), 8388607⟩,
⟨some 134, .mv (.t 133), (some (129, false)), 16777215⟩,
⟨some 135, .fa 0 (.t 11), (some (134, true)), 33554431⟩,
⟨some 136, .ld false 1 (.t 135), (some (134, true)), 67108863⟩,
⟨some 137, .bin .neq (.t 136) (ki 1), (some (134, true)), 134217727⟩,
⟨some 138, .mv (.t 137), (some (134, true)), 268435455⟩,
⟨some 139, .fa 1 (.t 11), (some (138, false)), 536870911⟩,
⟨some 140, .ld false 1 (.t 139), (some (138, false)), 1073741823⟩,
⟨some 141, .mv (.t 9), (some (138, false)), 536870911⟩,
⟨some 142, .iaa 4 1 (.t 4) (.t 141), (some (138, false)), 2684354559⟩,
⟨some 143, .ld false 1 (.t 142), (some (138, false)), 6979321855⟩,
⟨some 144, .bin .neq (.t 140) (.t 143), (some (138, false)), 17179869183⟩,
⟨some 145, .pick (.t 138) (.k (.d (.b true))) (.t 144), (some (134, true)), 34359738367⟩,
⟨some 146, .mv (.t 145), (some (134, true)), 68719476735⟩,
⟨some 147, .fa 1 (.t 12), (some (146, false)), 137438953471⟩,
⟨some 148, .ld false 1 (.t 147), (some (146, false)), 274877906943⟩,
⟨some 149, .bin .neq (.t 148) (ki 1), (some (146, false)), 549755813887⟩,
⟨some 150, .pick (.t 146) (.k (.d (.b true))) (.t 149), (some (134, true)), 1099511627775⟩,
⟨some 151, .pick (.t 134) (.t 150) (.k (.d (.b false))), (some (129, false)), 2199023255551⟩,
ow 152 (.pick (.t 129) (.k (.d (.b true))) (.t 151)) 4398046511103]) (
.cond (.t 152) (
sq ([
oo 2 (.mv (.k (.d (.b false))))]) (
.ret)) (.skip))))))) (
.region false [
om 89 9,
oo 90 (.bin .add (.t 89) (ki 1)),
om 9 90])))))) (
sq ([
oo 2 (.mv (.k (.d (.b true))))]) (
.ret))))))))))), [.slot 2]⟩
def n261 : Notes := { anns := [⟨[0, 3, 4, 5, 6], [], [], [], [(3, 4), (3, 7)], true⟩, ⟨[4, 8, 9], [], [], [], [], true⟩], frz := [], rgs := [] }
def c264 : CFn := ⟨sq ([
oo 0 (.mv (.k (.d (.b false))))]) (
sq ([
oo 6 (.build zV [(0, 1, (ki 1)), (1, 1, (ki 2))]),
oo 7 (.build zE [(1, 4, .t 6)]),
oo 1 (.zero (.agg zE)),
oz (.st 8 (.t 1) (.t 7)) 0]) (
sq ([
ol 8 true 8 1,
oo 9 (.build zE [(0, 1, (ki 1)), (5, 1, (ki 1))]),
oo 10 (.bsl 8 2 [(.i .i64 0), (.i .i64 0), (.i .i64 0), (.s []), (.l 4 []), (.i .i64 0), (.i .i64 0), (.l 8 [])] [(0, .t 8), (1, .t 9)]),
oo 11 (.build zE [(0, 1, (ki 4)), (7, 1, .t 10)]),
oo 2 (.zero (.agg zE)),
oz (.st 8 (.t 2) (.t 11)) 0]) (
sq ([
ol 12 true 8 2,
oo 13 (.build zV [(0, 1, (ki 1)), (1, 1, (ki 3))]),
oo 14 (.bsl 4 1 [(.i .i64 0), (.i .i64 0), (.s []), (.l 4 [])] [(0, .t 13)]),
oo 15 (.bsl 1 2 [(.l 4 [])] [(0, (.k (.nil 4))), (1, .t 14)]),
oo 16 (.call 269 [.t 12, .t 15, (.k (.nil 1))] 0 true),
oo 3 (.zero (.agg zV)),
oz (.st 4 (.t 3) (.t 16)) 0]) (
sq ([
oo 17 (.build zE [(0, 1, (ki 3)), (5, 1, (ki 0))]),
oo 18 (.bsl 1 1 [(.s [])] [(0, (.k (.d (.s [49, 50]))))]),
oo 19 (.call 269 [.t 17, (.k (.nil 1)), (.t 18)] 0 true),
oo 4 (.zero (.agg zV)),
oz (.st 4 (.t 4) (.t 19)) 0]) (
sq ([
ol 20 true 8 2,
oo 21 (.call 192 [.t 20] 0 true),
om 5 21]) (
sq ([
ol 22 true 8 2,
oo 23 (.call 210 [.t 22] 0 true),
om 24 23,
og 25 (.build zE []) 24,
og 26 (.call 210 [.t 25] 0 true) 24,
og 27 (.un .not (.t 26)) 24,
oo 28 (.pick (.t 24) (.t 27) (.k (.d (.b false)))),
om 29 28,
og 30 (.fa 0 (.t 3)) 29,
og 31 (.ld false 1 (.t 30)) 29,
og 32 (.bin .eql (.t 31) (ki 1)) 29,
oo 33 (.pick (.t 29) (.t 32) (.k (.d (.b false)))),
om 34 33,
og 35 (.fa 1 (.t 3)) 34,
og 36 (.ld false 1 (.t 35)) 34,
og 37 (.bin .eql (.t 36) (ki 5)) 34,
oo 38 (.pick (.t 34) (.t 37) (.k (.d (.b false)))),
om 39 38,
og 40 (.fa 1 (.t 4)) 39,
og 41 (.ld false 1 (.t 40)) 39,
og 42 (.bin .eql (.t 41) (ki 12)) 39,
oo 43 (.pick (.t 39) (.t 42) (.k (.d (.b false)))),
om 44 43,
og 45 (.mv (.t 5)) 44,
og 46 (.len 0 (.t 45)) 44,
og 47 (.bin .eql (.t 46) (ki 1)) 44,
oo 48 (.pick (.t 44) (.t 47) (.k (.d (.b false)))),
om 49 48,
og 50 (.mv (.t 5)) 49,
og 51 (.ia 2 (.t 50) (ki 0)) 49,
og 52 (.ld true 2 (.t 51)) 49,
og 53 (.build [(.d (.i .i64 0)), (.d (.i .i64 0))] [(0, 1, (ki 1)), (1, 1, (ki 0))]) 49,
og 54 (.eqa [.i, .i] false (.t 52) (.t 53)) 49,
oo 55 (.pick (.t 49) (.t 54) (.k (.d (.b false)))),
om 0 55]) (
.ret))))))), [.slot 0]⟩
def n264 : Notes := { anns := [], frz := [], rgs := [] }
def c269 : CFn := ⟨sq ([
oo 3 (.box (.t 0)),
oo 6 (.zero (.agg zV))]) (
sq ([
om 7 1,
om 8 2,
oo 9 (.build [(.nil 1), (.nil 1)] [(0, 1, .t 7), (1, 1, .t 8)]),
ol 10 true 8 3,
oo 11 (.call 277 [.t 9, .t 10] 0 true),
oo 12 (.call 276 [.t 11] 0 true),
oz (.st 4 (.t 6) (.t 12)) 0]) (
.ret)), [.cell 6 true 4]⟩
def n269 : Notes := { anns := [], frz := [], rgs := [] }
def c271 : CFn := ⟨sq ([
oo 1 (.box (.t 0)),
oo 2 (.zero (.agg zE))]) (
sq ([
ol 3 true 4 1,
oo 4 (.build zE [(1, 4, .t 3)]),
oz (.st 8 (.t 2) (.t 4)) 0]) (
.ret)), [.cell 2 true 8]⟩
def n271 : Notes := { anns := [], frz := [], rgs := [] }
def c272 : CFn := ⟨sq ([
oo 4 (.zero (.agg zE))]) (
sq ([
om 5 0,
om 6 1,
oo 7 (.build zE [(0, 1, .t 5), (7, 1, .t 6)]),
oz (.st 8 (.t 4) (.t 7)) 0]) (
.ret)), [.cell 4 true 8]⟩
def n272 : Notes := { anns := [], frz := [], rgs := [] }
def c276 : CFn := ⟨sq ([
oo 1 (.box (.t 0)),
oo 2 (.zero (.agg zV))]) (
sq ([
oo 6 (.fa 3 (.t 1)),
ol 7 false 1 6,
oo 8 (.call 146 [.t 7] 4 false),
om 3 8]) (
.seq (sq ([
om 9 3,
oo 10 (.len 0 (.t 9)),
oo 11 (.mv (ki 0))]) (
.block 0 (.loop ⟨[1, 2, 3, 9, 10, 11], [], [], [], [], true⟩ (sq ([
oo 12 (.bin .lss (.t 11) (.t 10))]) (
.seq (.cond (.t 12) (
.skip) (.exit 0)) (
.seq (.block 1 (sq ([
om 13 11,
oo 14 (.ia 4 (.t 9) (.t 11)),
ol 15 true 4 14,
oo 5 (.zero (.agg zV)),
om 4 13,
oz (.st 4 (.t 5) (.t 15)) 0]) (
.region false [
om 16 3,
om 17 4,
ol 18 true 4 5,
oo 19 (.call 276 [.t 18] 0 true),
oo 20 (.ia 4 (.t 16) (.t 17)),
oz (.st 4 (.t 20) (.t 19)) 0]))) (
.region false [
oo 21 (.bin .add (.t 11) (ki 1)),
om 11 21]))))))) (
sq ([
om 22 3,
oo 23 (.fa 3 (.t 1)),
oz (.st 1 (.t 23) (.t 22)) 0]) (
sq ([
ol 24 true 4 1,
oz (.st 4 (.t 2) (.t 24)) 0]) (
.ret))))), [.cell 2 true 4]⟩
def n276 : Notes := { anns := [⟨[1, 2, 3, 9, 10, 11], [], [], [], [], true⟩], frz := [0, 0, 0, 0, 1], rgs := [] }
def c277 : CFn := ⟨sq ([
oo 2 (.box (.t 0)),
oo 3 (.box (.t 1)),
oo 4 (.zero (.agg zV))]) (
sq ([
oo 11 (.fa 0 (.t 3)),
ol 12 false 1 11,
oo 13 (.call 236 [.t 12] 0 true),
om 5 13]) (
.seq (.block 0 (sq ([
om 44 5,
oo 45 (.bin .eql (.t 44) (.k (.d (.i .i64 (-2))))),
om 46 45,
oh 47 (.fa 7 (.t 3)) 46,
oh 48 (.ld false 1 (.t 47)) 46,
oh 49 (.len 0 (.t 48)) 46,
oh 50 (.mv (.t 5)) 46,
oh 51 (.bin .lss (.t 49) (.t 50)) 46,
oo 52 (.pick (.t 46) (.k (.d (.b true))) (.t 51)),
om 43 52]) (
.cond (.t 43) (
sq ([
oo 53 (.call 283 [(ki 1)] 0 true),
oz (.st 4 (.t 4) (.t 53)) 0]) (
.ret)) (sq ([
oo 55 (.fa 0 (.t 3)),
ol 56 false 1 55,
oo 57 (.bin .eql (.t 56) (ki 0)),
om 54 57]) (
.cond (.t 54) (
.region false [
oo 58 (.fa 1 (.t 3)),
ol 59 true 4 58,
oz (.st 4 (.t 4) (.t 59)) 0]) (sq ([
oo 61 (.fa 0 (.t 3)),
ol 62 false 1 61,
oo 63 (.bin .eql (.t 62) (ki 1)),
om 60 63]) (
.cond (.t 60) (
.region false [
ol 64 true 2 2,
ol 65 true 8 3,
oo 66 (.call 284 [.t 64, .t 65] 0 true),
oz (.st 4 (.t 4) (.t 66)) 0]) (sq ([
oo 68 (.fa 0 (.t 3)),
ol 69 false 1 68,
oo 70 (.bin .eql (.t 69) (ki 2)),
om 71 70,
oh 72 (.fa 0 (.t 3)) 71,
oh 73 (.ld false 1 (.t 72)) 71,
oh 74 (.bin .eql (.t 73) (ki 3)) 71,
oo 75 (.pick (.t 71) (.k (.d (.b true))) (.t 74)),
om 67 75]) (
.cond (.t 67) (
.region false [
ol 76 true 2 2,
ol 77 true 8 3,
oo 78 (.call 285 [.t 76, .t 77] 0 true),
oz (.st 4 (.t 4) (.t 78)) 0]) (sq ([
oo 80 (.fa 0 (.t 3)),
ol 81 false 1 80,
oo 82 (.bin .eql (.t 81) (ki 12)),
om 79 82]) (
.cond (.t 79) (
.region false [
ol 83 true 2 2,
ol 84 true 8 3,
oo 85 (.call 286 [.t 83, .t 84] 0 true),
oz (.st 4 (.t 4) (.t 85)) 0]) (sq ([
oo 14 (.fa 7 (.t 3)),
ol 15 false 1 14,
om 6 15]) (
.seq (sq ([
om 16 5,
oo 17 (.bin .geq (.t 16) (ki 0))]) (
.cond (.t 17) (
.region false [
om 18 6,
om 19 5,
oo 20 (.slc 8 (.t 18) none (some (.t 19))),
om 6 20]) (.skip))) (
sq ([
oo 7 (.mv (.k (.nil 4)))]) (
.seq (sq ([
om 21 6,
oo 22 (.len 0 (.t 21)),
oo 23 (.mv (ki 0))]) (
.block 1 (.loop ⟨[2, 3, 4, 7, 21, 22, 23], [7], [], [], [(4, 3)], true⟩ (sq ([
oo 24 (.bin .lss (.t 23) (.t 22))]) (
.seq (.cond (.t 24) (
.skip) (.exit 1)) (
.seq (.block 2 (sq ([
oo 25 (.ia 8 (.t 21) (.t 23)),
ol 26 true 8 25,
oo 9 (.zero (.agg zE)),
oz (.st 8 (.t 9) (.t 26)) 0]) (
sq ([
ol 27 true 2 2,
ol 28 true 8 9,
oo 29 (.call 277 [.t 27, .t 28] 0 true),
oo 10 (.zero (.agg zV)),
oz (.st 4 (.t 10) (.t 29)) 0]) (
.seq (sq ([
oo 30 (.fa 0 (.t 10)),
ol 31 false 1 30,
oo 32 (.bin .eql (.t 31) (ki 7))]) (
.cond (.t 32) (
sq ([
ol 33 true 4 10,
oz (.st 4 (.t 4) (.t 33)) 0]) (
.ret)) (.skip))) (
.region false [
om 34 7,
ol 35 true 4 10,
oo 36 (.bsl 4 1 [(.i .i64 0), (.i .i64 0), (.s []), (.l 4 [])] [(0, .t 35)]),
oo 37 (.app 4 56 (.t 34) (.t 36)),
om 7 37]))))) (
.region false [
oo 38 (.bin .add (.t 23) (ki 1)),
om 23 38]))))))) (
.region false [
oo 39 (.fa 0 (.t 3)),
ol 40 false 1 39,
om 41 7,
oo 42 (.call 287 [.t 40, .t 41] 0 true),
oz (.st 4 (.t 4) (.t 42)) 0])))))))))))))))) (
.seq (sq ([
ol 86 true 4 4,
oo 87 (.call 112 [.t 86] 0 true),
oo 88 (.bin .gtr (.t 87) (ki 60))]) (
.cond (.t 88) (
sq ([
oo 89 (.call 283 [(ki 6)] 0 true),
oz (.st 4 (.t 4) (.t 89)) 0]) (
.ret)) (.skip))) (
sq ([
ol 90 true 4 4,
oz (.st 4 (.t 4) (.t 90)) 0]) (
.ret))))), [.cell 4 true 4]⟩
def n277 : Notes := { anns := [⟨[2, 3, 4, 7, 21, 22, 23], [7], [], [], [(4, 3)], true⟩], frz := [], rgs := [] }
def c283 : CFn := ⟨sq ([
oo 2 (.zero (.agg zV))]) (
sq ([
om 3 0,
oo 4 (.build zV [(0, 1, (ki 7)), (1, 1, .t 3)]),
oz (.st 4 (.t 2) (.t 4)) 0]) (
.ret)), [.cell 2 true 4]⟩
def n283 : Notes := { anns := [], frz := [], rgs := [] }
def c284 : CFn := ⟨sq ([
oo 2 (.box (.t 0)),
oo 3 (.box (.t 1)),
oo 4 (.zero (.agg zV))]) (
sq ([
oo 10 (.fa 0 (.t 2)),
ol 11 false 1 10,
oo 12 (.fa 5 (.t 3)),
ol 13 false 1 12,
oo 14 (.call 292 [.t 11, .t 13] 0 true),
om 9 14,
oo 15 (.ext (.t 9) 0),
oo 16 (.ext (.t 9) 1),
om 5 15,
om 6 16]) (
sq ([
om 18 5,
oo 19 (.fa 6 (.t 3)),
ol 20 false 1 19,
oo 21 (.call 293 [.t 18, .t 20] 0 true),
om 17 21,
oo 22 (.ext (.t 17) 0),
oo 23 (.ext (.t 17) 1),
oo 7 (.zero (.agg zV)),
oz (.st 4 (.t 7) (.t 22)) 0,
om 8 23]) (
.seq (sq ([
om 24 8,
oo 25 (.un .not (.t 24))]) (
.cond (.t 25) (
sq ([
oo 26 (.call 283 [(ki 7)] 0 true),
oz (.st 4 (.t 4) (.t 26)) 0]) (
.ret)) (.skip))) (
sq ([
ol 27 true 4 7,
oz (.st 4 (.t 4) (.t 27)) 0]) (
.ret))))), [.cell 4 true 4]⟩
def n284 : Notes := { anns := [], frz := [], rgs := [] }
def c285 : CFn := ⟨sq ([
oo 2 (.box (.t 0)),
oo 3 (.box (.t 1)),
oo 4 (.zero (.agg zV))]) (
sq ([
oo 10 (.fa 1 (.t 2)),
ol 11 false 1 10,
oo 12 (.fa 5 (.t 3)),
ol 13 false 1 12,
oo 14 (.call 294 [.t 11, .t 13] 0 true),
om 9 14,
oo 15 (.ext (.t 9) 0),
oo 16 (.ext (.t 9) 1),
om 5 15,
om 6 16]) (
.seq (.block 0 (sq ([
om 18 6,
oo 19 (.un .not (.t 18)),
om 17 19]) (
.cond (.t 17) (
sq ([
oo 20 (.call 283 [(ki 7)] 0 true),
oz (.st 4 (.t 4) (.t 20)) 0]) (
.ret)) (sq ([
oo 22 (.fa 0 (.t 3)),
ol 23 false 1 22,
oo 24 (.bin .eql (.t 23) (ki 2)),
om 21 24]) (
.cond (.t 21) (
sq ([
om 25 5,
oo 26 (.build zV [(0, 1, (ki 3)), (2, 1, .t 25)]),
oz (.st 4 (.t 4) (.t 26)) 0]) (
.ret)) (sq ([
om 28 5,
oo 29 (.len 1 (.t 28)),
oo 30 (.bin .lss (.t 29) (ki 1)),
om 31 30,
oh 32 (.mv (.t 5)) 31,
oh 33 (.len 1 (.t 32)) 31,
oh 34 (.bin .gtr (.t 33) (ki 18)) 31,
oo 35 (.pick (.t 31) (.k (.d (.b true))) (.t 34)),
om 36 35,
oh 37 (.mv (.t 5)) 36,
oh 38 (.call 295 [.t 37, (.k (.d (.s [48, 49, 50, 51, 52, 53, 54, 55, 56, 57])))] 0 true) 36,
oh 39 (.bin .neq (.t 38) (.k (.d (.s [])))) 36,
oo 40 (.pick (.t 36) (.k (.d (.b true))) (.t 39)),
om 27 40]) (
.cond (.t 27) (
sq ([
oo 41 (.call 283 [(ki 2)] 0 true),
oz (.st 4 (.t 4) (.t 41)) 0]) (
.ret)) (.skip)))))))) (
sq ([
om 43 5,
oo 44 (.call 296 [.t 43, (ki 10), (ki 64)] 0 true),
om 42 44,
oo 45 (.ext (.t 42) 0),
oo 46 (.ext (.t 42) 1),
om 7 45,
om 8 46]) (
sq ([
om 47 7,
oo 48 (.build zV [(0, 1, (ki 1)), (1, 1, .t 47)]),
oz (.st 4 (.t 4) (.t 48)) 0]) (
.ret))))), [.cell 4 true 4]⟩
def n285 : Notes := { anns := [], frz := [], rgs := [] }
def c286 : CFn := ⟨sq ([
oo 2 (.box (.t 0)),
oo 3 (.box (.t 1)),
oo 4 (.zero (.agg zV))]) (
.seq (.seq (.region true [
ol 6 true 2 2,
oo 7 (.fa 7 (.t 3)),
ow 8 (.ld false 1 (.t 7)) 2,
ow 9 (.ia 8 (.t 8) (ki 0)) 6,
ow 10 (.ld true 8 (.t 9)) 14,
ow 11 (.call 277 [.t 6, .t 10] 0 true) 31,
oo 5 (.zero (.agg zV)),
oz (.st 4 (.t 5) (.t 11)) 127]) (
.block 0 (sq ([
oo 13 (.fa 0 (.t 5)),
ol 14 false 1 13,
oo 15 (.bin .eql (.t 14) (ki 7)),
om 12 15]) (
.cond (.t 12) (
sq ([
ol 16 true 4 5,
oz (.st 4 (.t 4) (.t 16)) 0]) (
.ret)) (sq ([
oo 18 (.fa 0 (.t 5)),
ol 19 false 1 18,
oo 20 (.bin .neq (.t 19) (ki 2)),
om 17 20]) (
.cond (.t 17) (
sq ([
oo 21 (.call 283 [(ki 4)] 0 true),
oz (.st 4 (.t 4) (.t 21)) 0]) (
.ret)) (sq ([
oo 23 (.fa 1 (.t 5)),
ol 24 false 1 23,
oo 25 (.bin .neq (.t 24) (ki 0)),
om 22 25]) (
.cond (.t 22) (
.seq (.region true [
ol 26 true 2 2,
oo 27 (.fa 7 (.t 3)),
ow 28 (.ld false 1 (.t 27)) 2,
ow 29 (.ia 8 (.t 28) (ki 1)) 6,
ow 30 (.ld true 8 (.t 29)) 14,
ow 31 (.call 277 [.t 26, .t 30] 0 true) 31,
oz (.st 4 (.t 4) (.t 31)) 63]) (
.ret)) (.skip))))))))) (
.seq (.region true [
ol 32 true 2 2,
oo 33 (.fa 7 (.t 3)),
ow 34 (.ld false 1 (.t 33)) 2,
ow 35 (.ia 8 (.t 34) (ki 2)) 6,
ow 36 (.ld true 8 (.t 35)) 14,
ow 37 (.call 277 [.t 32, .t 36] 0 true) 31,
oz (.st 4 (.t 4) (.t 37)) 63]) (
.ret))), [.cell 4 true 4]⟩
def n286 : Notes := { anns := [], frz := [], rgs := [] }
def c287 : CFn := ⟨sq ([
oo 4 (.zero (.agg zV))]) (
.seq (sq ([
om 5 0]) (
.block 0 (.seq (sq ([
oo 7 (.bin .eql (.t 5) (ki 4)),
om 6 7]) (
.cond (.t 6) (
.skip) (sq ([
oo 8 (.bin .eql (.t 5) (ki 5)),
om 6 8]) (
.cond (.t 6) (
.skip) (.region false [
oo 9 (.bin .eql (.t 5) (ki 6)),
om 6 9]))))) (
.cond (.t 6) (
.seq (sq ([
om 10 1,
oo 11 (.bsl 1 2 [(.i .i64 0)] [(0, (ki 1)), (1, (ki 1))]),
oo 12 (.call 297 [.t 10, .t 11] 0 true),
oo 13 (.un .not (.t 12))]) (
.cond (.t 13) (
sq ([
oo 14 (.call 283 [(ki 4)] 0 true),
oz (.st 4 (.t 4) (.t 14)) 0]) (
.ret)) (.skip))) (
.seq (.region true [
om 15 0,
om 16 1,
ow 17 (.ia 4 (.t 16) (ki 0)) 2,
ow 18 (.fa 1 (.t 17)) 6,
ow 19 (.ld false 1 (.t 18)) 14,
om 20 1,
ow 21 (.ia 4 (.t 20) (ki 1)) 32,
ow 22 (.fa 1 (.t 21)) 96,
ow 23 (.ld false 1 (.t 22)) 224,
ow 24 (.call 298 [.t 15, .t 19, .t 23] 0 true) 511,
oz (.st 4 (.t 4) (.t 24)) 1023]) (
.ret))) (sq ([
oo 26 (.bin .eql (.t 5) (ki 7)),
om 25 26]) (
.cond (.t 25) (
.seq (.region true [
om 27 1,
ow 28 (.ia 4 (.t 27) (ki 0)) 1,
ow 29 (.ld true 4 (.t 28)) 3,
om 30 1,
ow 31 (.ia 4 (.t 30) (ki 1)) 8,
ow 32 (.ld true 4 (.t 31)) 24,
ow 33 (.call 114 [.t 29, .t 32] 0 true) 63,
ow 34 (.bin .eql (.t 33) (ki 0)) 127,
ow 35 (.call 299 [.t 34] 0 true) 255,
oz (.st 4 (.t 4) (.t 35)) 511]) (
.ret)) (sq ([
oo 37 (.bin .eql (.t 5) (ki 8)),
om 36 37]) (
.cond (.t 36) (
.seq (.region true [
om 38 1,
ow 39 (.ia 4 (.t 38) (ki 0)) 1,
ow 40 (.ld true 4 (.t 39)) 3,
om 41 1,
ow 42 (.ia 4 (.t 41) (ki 1)) 8,
ow 43 (.ld true 4 (.t 42)) 24,
ow 44 (.call 114 [.t 40, .t 43] 0 true) 63,
ow 45 (.bin .lss (.t 44) (ki 0)) 127,
ow 46 (.call 299 [.t 45] 0 true) 255,
oz (.st 4 (.t 4) (.t 46)) 511]) (
.ret)) (.seq (sq ([
oo 48 (.bin .eql (.t 5) (ki 9)),
om 47 48]) (
.cond (.t 47) (
.skip) (sq ([
oo 49 (.bin .eql (.t 5) (ki 10)),
om 47 49]) (
.cond (.t 47) (
.skip) (.region false [
oo 50 (.bin .eql (.t 5) (ki 11)),
om 47 50]))))) (
.cond (.t 47) (
sq ([
om 51 0,
om 52 1,
oo 53 (.call 300 [.t 51, .t 52] 0 true),
oz (.st 4 (.t 4) (.t 53)) 0]) (
.ret)) (sq ([
oo 55 (.bin .eql (.t 5) (ki 13)),
om 54 55]) (
.cond (.t 54) (
.seq (.region true [
om 56 1,
ow 57 (.ia 4 (.t 56) (ki 0)) 1,
ow 58 (.ld true 4 (.t 57)) 3,
om 59 1,
ow 60 (.ia 4 (.t 59) (ki 1)) 8,
ow 61 (.ld true 4 (.t 60)) 24,
ow 62 (.call 301 [.t 58, .t 61] 0 true) 63,
oz (.st 4 (.t 4) (.t 62)) 127]) (
.ret)) (sq ([
oo 64 (.bin .eql (.t 5) (ki 14)),
om 63 64]) (
.cond (.t 63) (
sq ([
om 65 1,
oo 66 (.build zV [(0, 1, (ki 4)), (3, 1, .t 65)]),
oz (.st 4 (.t 4) (.t 66)) 0]) (
.ret)) (sq ([
oo 68 (.bin .eql (.t 5) (ki 15)),
om 67 68]) (
.cond (.t 67) (
sq ([
om 69 1,
oo 70 (.ia 4 (.t 69) (ki 0)),
ol 71 true 4 70,
oo 72 (.call 302 [.t 71] 0 true),
oz (.st 4 (.t 4) (.t 72)) 0]) (
.ret)) (.seq (sq ([
oo 74 (.bin .eql (.t 5) (ki 16)),
om 73 74]) (
.cond (.t 73) (
.skip) (sq ([
oo 75 (.bin .eql (.t 5) (ki 17)),
om 73 75]) (
.cond (.t 73) (
.skip) (.region false [
oo 76 (.bin .eql (.t 5) (ki 18)),
om 73 76]))))) (
.cond (.t 73) (
sq ([
om 77 0,
om 78 1,
oo 79 (.call 303 [.t 77, .t 78] 0 true),
oz (.st 4 (.t 4) (.t 79)) 0]) (
.ret)) (sq ([
oo 81 (.bin .eql (.t 5) (ki 21)),
om 80 81]) (
.cond (.t 80) (
sq ([
oo 82 (.build zV [(0, 1, (ki 5))]),
oz (.st 4 (.t 4) (.t 82)) 0]) (
.ret)) (sq ([
oo 84 (.bin .eql (.t 5) (ki 22)),
om 83 84]) (
.cond (.t 83) (
sq ([
oo 85 (.build zV [(0, 1, (ki 6))]),
oz (.st 4 (.t 4) (.t 85)) 0]) (
.ret)) (.skip))))))))))))))))))))))) (
.seq (.region true [
om 86 0,
om 87 1,
ow 88 (.ia 4 (.t 87) (ki 0)) 2,
ow 89 (.ld true 4 (.t 88)) 6,
om 90 1,
ow 91 (.ia 4 (.t 90) (ki 1)) 16,
ow 92 (.ld true 4 (.t 91)) 48,
ow 93 (.call 304 [.t 86, .t 89, .t 92] 0 true) 127,
oz (.st 4 (.t 4) (.t 93)) 255]) (
.ret))), [.cell 4 true 4]⟩
def n287 : Notes := { anns := [], frz := [], rgs := [] }
def c292 : CFn := ⟨sq ([
oo 4 (.mv (.k (.nil 4))),
oo 5 (.mv (.k (.d (.b false))))]) (
.seq (sq ([
om 6 1,
oo 7 (.bin .lss (.t 6) (ki 0)),
om 8 7,
oh 9 (.mv (.t 1)) 8,
oh 10 (.mv (.t 0)) 8,
oh 11 (.len 0 (.t 10)) 8,
oh 12 (.bin .geq (.t 9) (.t 11)) 8,
oo 13 (.pick (.t 8) (.k (.d (.b true))) (.t 12))]) (
.cond (.t 13) (
sq ([
om 14 4,
om 4 14,
oo 5 (.mv (.k (.d (.b false))))]) (
.ret)) (.skip))) (
sq ([
om 15 0,
om 16 1,
oo 17 (.ia 1 (.t 15) (.t 16)),
ol 18 false 1 17,
om 4 18,
oo 5 (.mv (.k (.d (.b true))))]) (
.ret))), [.slot 4, .slot 5]⟩
def n292 : Notes := { anns := [], frz := [], rgs := [] }
def c293 : CFn := ⟨sq ([
oo 4 (.zero (.agg zV)),
oo 5 (.mv (.k (.d (.b false))))]) (
.seq (sq ([
om 6 1,
oo 7 (.bin .lss (.t 6) (ki 0)),
om 8 7,
oh 9 (.mv (.t 1)) 8,
oh 10 (.mv (.t 0)) 8,
oh 11 (.len 0 (.t 10)) 8,
oh 12 (.bin .geq (.t 9) (.t 11)) 8,
oo 13 (.pick (.t 8) (.k (.d (.b true))) (.t 12))]) (
.cond (.t 13) (
sq ([
ol 14 true 4 4,
oz (.st 4 (.t 4) (.t 14)) 0,
oo 5 (.mv (.k (.d (.b false))))]) (
.ret)) (.skip))) (
sq ([
om 15 0,
om 16 1,
oo 17 (.ia 4 (.t 15) (.t 16)),
ol 18 true 4 17,
oz (.st 4 (.t 4) (.t 18)) 0,
oo 5 (.mv (.k (.d (.b true))))]) (
.ret))), [.cell 4 true 4, .slot 5]⟩
def n293 : Notes := { anns := [], frz := [], rgs := [] }
def c294 : CFn := ⟨sq ([
oo 4 (.mv (.k (.d (.s [])))),
oo 5 (.mv (.k (.d (.b false))))]) (
.seq (sq ([
om 6 1,
oo 7 (.bin .lss (.t 6) (ki 0)),
om 8 7,
oh 9 (.mv (.t 1)) 8,
oh 10 (.mv (.t 0)) 8,
oh 11 (.len 0 (.t 10)) 8,
oh 12 (.bin .geq (.t 9) (.t 11)) 8,
oo 13 (.pick (.t 8) (.k (.d (.b true))) (.t 12))]) (
.cond (.t 13) (
sq ([
om 14 4,
om 4 14,
oo 5 (.mv (.k (.d (.b false))))]) (
.ret)) (.skip))) (
sq ([
om 15 0,
om 16 1,
oo 17 (.ia 1 (.t 15) (.t 16)),
ol 18 false 1 17,
om 4 18,
oo 5 (.mv (.k (.d (.b true))))]) (
.ret))), [.slot 4, .slot 5]⟩
def n294 : Notes := { anns := [], frz := [], rgs := [] }
def c297 : CFn := ⟨sq ([
oo 4 (.mv (.k (.d (.b false))))]) (
.seq (sq ([
om 7 1,
oo 8 (.len 0 (.t 7)),
oo 9 (.mv (ki 0))]) (
.block 0 (.loop ⟨[0, 7, 8, 9], [], [], [], [], true⟩ (sq ([
oo 10 (.bin .lss (.t 9) (.t 8))]) (
.seq (.cond (.t 10) (
.skip) (.exit 0)) (
.seq (.block 1 (sq ([
om 11 9,
oo 12 (.ia 1 (.t 7) (.t 9)),
ol 13 false 1 12,
om 5 11,
om 6 13]) (
sq ([
om 14 0,
om 15 5,
oo 16 (.ia 4 (.t 14) (.t 15)),
oo 17 (.fa 0 (.t 16)),
ol 18 false 1 17,
om 19 6,
oo 20 (.bin .neq (.t 18) (.t 19))]) (
.cond (.t 20) (
sq ([
oo 4 (.mv (.k (.d (.b false))))]) (
.ret)) (.skip))))) (
.region false [
oo 21 (.bin .add (.t 9) (ki 1)),
om 9 21]))))))) (
sq ([
oo 4 (.mv (.k (.d (.b true))))]) (
.ret))), [.slot 4]⟩
def n297 : Notes := { anns := [⟨[0, 7, 8, 9], [], [], [], [], true⟩], frz := [], rgs := [] }
def c298 : CFn := ⟨sq ([
oo 6 (.zero (.agg zV))]) (
sq ([
oo 7 (.mv (ki 0)),
oo 8 (.mv (.k (.d (.b false))))]) (
.seq (sq ([
om 9 0]) (
.block 0 (sq ([
oo 11 (.bin .eql (.t 9) (ki 4)),
om 10 11]) (
.cond (.t 10) (
sq ([
om 12 1,
om 13 2,
oo 14 (.bin .add (.t 12) (.t 13)),
om 7 14]) (
.region false [
om 15 1,
om 16 7,
oo 17 (.bin .xor (.t 15) (.t 16)),
om 18 2,
om 19 7,
oo 20 (.bin .xor (.t 18) (.t 19)),
oo 21 (.bin .and (.t 17) (.t 20)),
oo 22 (.bin .lss (.t 21) (ki 0)),
om 8 22])) (sq ([
oo 24 (.bin .eql (.t 9) (ki 5)),
om 23 24]) (
.cond (.t 23) (
sq ([
om 25 1,
om 26 2,
oo 27 (.bin .sub (.t 25) (.t 26)),
om 7 27]) (
.region false [
om 28 1,
om 29 2,
oo 30 (.bin .xor (.t 28) (.t 29)),
om 31 1,
om 32 7,
oo 33 (.bin .xor (.t 31) (.t 32)),
oo 34 (.bin .and (.t 30) (.t 33)),
oo 35 (.bin .lss (.t 34) (ki 0)),
om 8 35])) (sq ([
oo 37 (.bin .eql (.t 9) (ki 6)),
om 36 37]) (
.cond (.t 36) (
sq ([
om 38 1,
om 39 2,
oo 40 (.bin .mul (.t 38) (.t 39)),
om 7 40]) (
.region false [
om 41 1,
oo 42 (.bin .neq (.t 41) (ki 0)),
om 43 42,
og 44 (.mv (.t 7)) 43,
og 45 (.mv (.t 1)) 43,
og 46 (.bin .quo (.t 44) (.t 45)) 43,
og 47 (.mv (.t 2)) 43,
og 48 (.bin .neq (.t 46) (.t 47)) 43,
og 49 (.mv (.t 48)) 43,
oh 50 (.mv (.t 1)) 49,
oh 51 (.bin .eql (.t 50) (.k (.d (.i .i64 (-1))))) 49,
oh 52 (.mv (.t 51)) 49,
og 53 (.mv (.t 2)) 52,
og 54 (.bin .eql (.t 53) (.k (.d (.i .i64 (-9223372036854775808))))) 52,
oh 55 (.pick (.t 52) (.t 54) (.k (.d (.b false)))) 49,
og 56 (.pick (.t 49) (.k (.d (.b true))) (.t 55)) 43,
oo 57 (.pick (.t 43) (.t 56) (.k (.d (.b false)))),
om 8 57])) (.skip))))))))) (
.seq (sq ([
om 58 8]) (
.cond (.t 58) (
sq ([
oo 59 (.call 283 [(ki 5)] 0 true),
oz (.st 4 (.t 6) (.t 59)) 0]) (
.ret)) (.skip))) (
sq ([
om 60 7,
oo 61 (.build zV [(0, 1, (ki 1)), (1, 1, .t 60)]),
oz (.st 4 (.t 6) (.t 61)) 0]) (
.ret))))), [.cell 6 true 4]⟩
def n298 : Notes := { anns := [], frz := [], rgs := [] }
def c299 : CFn := ⟨sq ([
oo 2 (.zero (.agg zV))]) (
sq ([
oo 4 (.build zV [(0, 1, (ki 2))]),
oo 3 (.zero (.agg zV)),
oz (.st 4 (.t 3) (.t 4)) 0]) (
.seq (sq ([
om 5 0]) (
.cond (.t 5) (
.region false [
oo 6 (.fa 1 (.t 3)),
oz (.st 1 (.t 6) (ki 1)) 0]) (.skip))) (
sq ([
ol 7 true 4 3,
oz (.st 4 (.t 2) (.t 7)) 0]) (
.ret)))), [.cell 2 true 4]⟩
def n299 : Notes := { anns := [], frz := [], rgs := [] }
def c300 : CFn := ⟨sq ([
oo 4 (.zero (.agg zV))]) (
.seq (.block 0 (sq ([
om 6 1,
om 7 0,
oo 8 (.call 236 [.t 7] 0 true),
oo 9 (.mm true [.t 8, (ki 1)]),
oo 10 (.slc 4 (.t 6) none (some (.t 9))),
oo 11 (.bsl 1 1 [(.i .i64 0)] [(0, (ki 2))]),
oo 12 (.call 297 [.t 10, .t 11] 0 true),
oo 13 (.un .not (.t 12)),
om 14 13,
oh 15 (.mv (.t 0)) 14,
oh 16 (.bin .neq (.t 15) (ki 11)) 14,
oh 17 (.mv (.t 16)) 14,
og 18 (.mv (.t 1)) 17,
og 19 (.bsl 1 2 [(.i .i64 0)] [(0, (ki 2)), (1, (ki 2))]) 17,
og 20 (.call 297 [.t 18, .t 19] 0 true) 17,
og 21 (.un .not (.t 20)) 17,
oh 22 (.pick (.t 17) (.t 21) (.k (.d (.b false)))) 14,
oo 23 (.pick (.t 14) (.k (.d (.b true))) (.t 22)),
om 5 23]) (
.cond (.t 5) (
sq ([
oo 24 (.call 283 [(ki 4)] 0 true),
oz (.st 4 (.t 4) (.t 24)) 0]) (
.ret)) (sq ([
om 26 0,
oo 27 (.bin .eql (.t 26) (ki 11)),
om 25 27]) (
.cond (.t 25) (
sq ([
om 28 1,
oo 29 (.ia 4 (.t 28) (ki 0)),
oo 30 (.fa 1 (.t 29)),
ol 31 false 1 30,
oo 32 (.bin .eql (.t 31) (ki 0)),
oo 33 (.call 299 [.t 32] 0 true),
oz (.st 4 (.t 4) (.t 33)) 0]) (
.ret)) (sq ([
om 35 0,
oo 36 (.bin .eql (.t 35) (ki 9)),
om 34 36]) (
.cond (.t 34) (
sq ([
om 37 1,
oo 38 (.ia 4 (.t 37) (ki 0)),
oo 39 (.fa 1 (.t 38)),
ol 40 false 1 39,
oo 41 (.bin .neq (.t 40) (ki 0)),
om 42 41,
og 43 (.mv (.t 1)) 42,
og 44 (.ia 4 (.t 43) (ki 1)) 42,
og 45 (.fa 1 (.t 44)) 42,
og 46 (.ld false 1 (.t 45)) 42,
og 47 (.bin .neq (.t 46) (ki 0)) 42,
oo 48 (.pick (.t 42) (.t 47) (.k (.d (.b false)))),
oo 49 (.call 299 [.t 48] 0 true),
oz (.st 4 (.t 4) (.t 49)) 0]) (
.ret)) (.skip)))))))) (
sq ([
om 50 1,
oo 51 (.ia 4 (.t 50) (ki 0)),
oo 52 (.fa 1 (.t 51)),
ol 53 false 1 52,
oo 54 (.bin .neq (.t 53) (ki 0)),
om 55 54,
oh 56 (.mv (.t 1)) 55,
oh 57 (.ia 4 (.t 56) (ki 1)) 55,
oh 58 (.fa 1 (.t 57)) 55,
oh 59 (.ld false 1 (.t 58)) 55,
oh 60 (.bin .neq (.t 59) (ki 0)) 55,
oo 61 (.pick (.t 55) (.k (.d (.b true))) (.t 60)),
oo 62 (.call 299 [.t 61] 0 true),
oz (.st 4 (.t 4) (.t 62)) 0]) (
.ret))), [.cell 4 true 4]⟩
def n300 : Notes := { anns := [], frz := [], rgs := [] }
def c301 : CFn := ⟨sq ([
oo 2 (.box (.t 0)),
oo 3 (.box (.t 1)),
oo 4 (.zero (.agg zV))]) (
.seq (sq ([
oo 5 (.fa 0 (.t 2)),
ol 6 false 1 5,
oo 7 (.fa 0 (.t 3)),
ol 8 false 1 7,
oo 9 (.bin .neq (.t 6) (.t 8)),
om 10 9,
oh 11 (.fa 0 (.t 2)) 10,
oh 12 (.ld false 1 (.t 11)) 10,
oh 13 (.bin .neq (.t 12) (ki 3)) 10,
oh 14 (.mv (.t 13)) 10,
og 15 (.fa 0 (.t 2)) 14,
og 16 (.ld false 1 (.t 15)) 14,
og 17 (.bin .neq (.t 16) (ki 4)) 14,
oh 18 (.pick (.t 14) (.t 17) (.k (.d (.b false)))) 10,
oo 19 (.pick (.t 10) (.k (.d (.b true))) (.t 18))]) (
.cond (.t 19) (
sq ([
oo 20 (.call 283 [(ki 4)] 0 true),
oz (.st 4 (.t 4) (.t 20)) 0]) (
.ret)) (.skip))) (
.seq (.region true [
oo 21 (.fa 0 (.t 2)),
ow 22 (.ld false 1 (.t 21)) 1,
oo 23 (.fa 2 (.t 2)),
ow 24 (.ld false 1 (.t 23)) 4,
oo 25 (.fa 2 (.t 3)),
ow 26 (.ld false 1 (.t 25)) 16,
ow 27 (.bin .add (.t 24) (.t 26)) 60,
oo 28 (.fa 3 (.t 2)),
ow 29 (.ld false 1 (.t 28)) 128,
oo 30 (.fa 3 (.t 3)),
ow 31 (.ld false 1 (.t 30)) 512,
ow 32 (.bsl 1 2 [(.l 4 [])] [(0, .t 29), (1, .t 31)]) 1920,
ow 33 (.call 314 [.t 32] 0 true) 3968,
ow 34 (.build zV [(0, 1, .t 22), (2, 1, .t 27), (3, 1, .t 33)]) 8191,
oz (.st 4 (.t 4) (.t 34)) 16383]) (
.ret))), [.cell 4 true 4]⟩
def n301 : Notes := { anns := [], frz := [], rgs := [] }
def c302 : CFn := ⟨sq ([
oo 1 (.box (.t 0)),
oo 2 (.zero (.agg zV))]) (
.seq (sq ([
oo 3 (.fa 0 (.t 1)),
ol 4 false 1 3]) (
.block 0 (sq ([
oo 6 (.bin .eql (.t 4) (ki 3)),
om 5 6]) (
.cond (.t 5) (
sq ([
oo 7 (.fa 2 (.t 1)),
ol 8 false 1 7,
oo 9 (.len 1 (.t 8)),
oo 10 (.build zV [(0, 1, (ki 1)), (1, 1, .t 9)]),
oz (.st 4 (.t 2) (.t 10)) 0]) (
.ret)) (.seq (sq ([
oo 12 (.bin .eql (.t 4) (ki 4)),
om 11 12]) (
.cond (.t 11) (
.skip) (sq ([
oo 13 (.bin .eql (.t 4) (ki 5)),
om 11 13]) (
.cond (.t 11) (
.skip) (.region false [
oo 14 (.bin .eql (.t 4) (ki 6)),
om 11 14]))))) (
.cond (.t 11) (
sq ([
oo 15 (.fa 3 (.t 1)),
ol 16 false 1 15,
oo 17 (.len 0 (.t 16)),
oo 18 (.build zV [(0, 1, (ki 1)), (1, 1, .t 17)]),
oz (.st 4 (.t 2) (.t 18)) 0]) (
.ret)) (.skip))))))) (
sq ([
oo 19 (.call 283 [(ki 4)] 0 true),
oz (.st 4 (.t 2) (.t 19)) 0]) (
.ret))), [.cell 2 true 4]⟩
def n302 : Notes := { anns := [], frz := [], rgs := [] }
def c303 : CFn := ⟨sq ([
oo 4 (.zero (.agg zV))]) (
.seq (sq ([
om 8 1,
oo 9 (.bsl 1 2 [(.i .i64 0)] [(0, (ki 6)), (1, (ki 3))]),
oo 10 (.call 297 [.t 8, .t 9] 0 true),
oo 11 (.un .not (.t 10))]) (
.cond (.t 11) (
sq ([
oo 12 (.call 283 [(ki 4)] 0 true),
oz (.st 4 (.t 4) (.t 12)) 0]) (
.ret)) (.skip))) (
sq ([
om 13 1,
oo 14 (.ia 4 (.t 13) (ki 0)),
oo 15 (.fa 3 (.t 14)),
ol 16 false 1 15,
om 5 16]) (
sq ([
om 18 5,
om 19 1,
oo 20 (.ia 4 (.t 19) (ki 1)),
oo 21 (.fa 2 (.t 20)),
ol 22 false 1 21,
oo 23 (.call 119 [.t 18, .t 22] 0 true),
om 17 23,
oo 24 (.ext (.t 17) 0),
oo 25 (.ext (.t 17) 1),
om 6 24,
om 7 25]) (
.seq (.block 0 (sq ([
om 27 0,
oo 28 (.bin .eql (.t 27) (ki 18)),
om 26 28]) (
.cond (.t 26) (
sq ([
om 29 7,
oo 30 (.call 299 [.t 29] 0 true),
oz (.st 4 (.t 4) (.t 30)) 0]) (
.ret)) (sq ([
om 32 0,
oo 33 (.bin .eql (.t 32) (ki 17)),
om 34 33,
og 35 (.mv (.t 7)) 34,
oo 36 (.pick (.t 34) (.t 35) (.k (.d (.b false)))),
om 37 36,
og 38 (.mv (.t 5)) 37,
og 39 (.mv (.t 6)) 37,
og 40 (.ia 4 (.t 38) (.t 39)) 37,
og 41 (.fa 3 (.t 40)) 37,
og 42 (.ld false 1 (.t 41)) 37,
og 43 (.len 0 (.t 42)) 37,
og 44 (.bin .gtr (.t 43) (ki 1)) 37,
oo 45 (.pick (.t 37) (.t 44) (.k (.d (.b false)))),
om 31 45]) (
.cond (.t 31) (
sq ([
om 46 5,
om 47 6,
oo 48 (.ia 4 (.t 46) (.t 47)),
oo 49 (.fa 3 (.t 48)),
ol 50 false 1 49,
oo 51 (.ia 4 (.t 50) (ki 1)),
ol 52 true 4 51,
oz (.st 4 (.t 4) (.t 52)) 0]) (
.ret)) (sq ([
om 54 0,
oo 55 (.bin .eql (.t 54) (ki 17)),
om 53 55]) (
.cond (.t 53) (
sq ([
oo 56 (.call 283 [(ki 7)] 0 true),
oz (.st 4 (.t 4) (.t 56)) 0]) (
.ret)) (.skip)))))))) (
sq ([
om 57 5,
oo 58 (.call 146 [.t 57] 4 false),
om 5 58]) (
.seq (sq ([
om 59 7]) (
.cond (.t 59) (
.region false [
om 60 5,
om 61 6,
om 62 6,
oo 63 (.bin .add (.t 62) (ki 1)),
oo 64 (.call 315 [.t 60, .t 61, .t 63] 4 false),
om 5 64]) (.skip))) (
sq ([
om 65 5,
om 66 6,
om 67 1,
oo 68 (.slc 4 (.t 67) (some (ki 1)) (some (ki 3))),
oo 69 (.call 146 [.t 68] 0 true),
oo 70 (.build zV [(0, 1, (ki 4)), (3, 1, .t 69)]),
oo 71 (.bsl 4 1 [(.i .i64 0), (.i .i64 0), (.s []), (.l 4 [])] [(0, .t 70)]),
oo 72 (.call 134 [.t 65, .t 66, .t 71] 0 true),
oo 73 (.build zV [(0, 1, (ki 6)), (3, 1, .t 72)]),
oz (.st 4 (.t 4) (.t 73)) 0]) (
.ret)))))))), [.cell 4 true 4]⟩
def n303 : Notes := { anns := [], frz := [0, 0, 0, 0, 0, 0, 0, 0, 0, 0, 0, 0, 0, 0, 0, 0, 0, 0, 0, 0, 0, 0, 0, 0, 0, 0, 0, 0, 0, 0, 0, 0, 0, 0, 0, 0, 0, 0, 0, 0, 0, 0, 0, 0, 0, 0, 0, 0, 0, 0, 0, 0, 0, 0, 0, 0, 0, 0, 1, 0, 0, 0, 0, 0, 0, 1], rgs := [] }
def c304 : CFn := ⟨sq ([
oo 4 (.box (.t 1)),
oo 5 (.box (.t 2)),
oo 6 (.zero (.agg zV))]) (
.seq (sq ([
oo 8 (.fa 0 (.t 4)),
ol 9 false 1 8,
oo 10 (.bin .neq (.t 9) (ki 5))]) (
.cond (.t 10) (
sq ([
oo 11 (.call 283 [(ki 4)] 0 true),
oz (.st 4 (.t 6) (.t 11)) 0]) (
.ret)) (.skip))) (
sq ([
oo 12 (.fa 3 (.t 4)),
ol 13 false 1 12,
ol 14 true 4 5,
oo 15 (.call 116 [.t 13, .t 14] 0 true),
om 7 15]) (
.seq (sq ([
om 16 0,
oo 17 (.bin .eql (.t 16) (ki 20))]) (
.cond (.t 17) (
sq ([
om 18 7,
oo 19 (.len 0 (.t 18)),
oo 20 (.fa 3 (.t 4)),
ol 21 false 1 20,
oo 22 (.len 0 (.t 21)),
oo 23 (.bin .eql (.t 19) (.t 22)),
oo 24 (.call 299 [.t 23] 0 true),
oz (.st 4 (.t 6) (.t 24)) 0]) (
.ret)) (.skip))) (
sq ([
om 25 7,
oo 26 (.build zV [(0, 1, (ki 5)), (3, 1, .t 25)]),
oz (.st 4 (.t 6) (.t 26)) 0]) (
.ret))))), [.cell 6 true 4]⟩
def n304 : Notes := { anns := [], frz := [], rgs := [] }
def c314 : CFn := ⟨sq ([
oo 2 (.mv (.k (.nil 4)))]) (
sq ([
oo 3 (.mv (ki 0))]) (
.seq (sq ([
om 9 0,
oo 10 (.len 0 (.t 9)),
oo 11 (.mv (ki 0))]) (
.block 0 (.loop ⟨[0, 3, 9, 10, 11], [], [], [], [], false⟩ (sq ([
oo 12 (.bin .lss (.t 11) (.t 10))]) (
.seq (.cond (.t 12) (
.skip) (.exit 0)) (
.seq (.block 1 (sq ([
oo 13 (.ia 1 (.t 9) (.t 11)),
ol 14 false 1 13,
om 5 14]) (
sq ([
om 15 3,
om 16 5,
oo 17 (.len 0 (.t 16)),
oo 18 (.bin .add (.t 15) (.t 17)),
om 3 18]) (
sq ([
om 19 3,
oo 20 (.bin .lss (.t 19) (ki 0))]) (
.cond (.t 20) (
.region false [
oo 21 (.die),
oz (.die) 0]) (.skip)))))) (
.region false [
oo 22 (.bin .add (.t 11) (ki 1)),
om 11 22]))))))) (
sq ([
om 23 3,
oo 24 (.callr 325 [(.k (.nil 4)), (.t 23)] 4),
om 6 24]) (
.seq (sq ([
om 25 0,
oo 26 (.len 0 (.t 25)),
oo 27 (.mv (ki 0))]) (
.block 2 (.loop ⟨[6, 25, 26, 27], [], [], [], [], false⟩ (sq ([
oo 28 (.bin .lss (.t 27) (.t 26))]) (
.seq (.cond (.t 28) (
.skip) (.exit 2)) (
.seq (.block 3 (sq ([
oo 29 (.ia 1 (.t 25) (.t 27)),
ol 30 false 1 29,
om 8 30]) (
.region false [
om 31 6,
om 32 8,
oo 33 (.apa 4 56 (.t 31) (.t 32)),
om 6 33]))) (
.region false [
oo 34 (.bin .add (.t 27) (ki 1)),
om 27 34]))))))) (
sq ([
om 35 6,
om 2 35]) (
.ret)))))), [.slot 2]⟩
def n314 : Notes := { anns := [⟨[0, 3, 9, 10, 11], [], [], [], [], false⟩, ⟨[6, 25, 26, 27], [], [], [], [], false⟩], frz := [0, 0, 0, 0, 0, 0, 0, 0, 0, 0, 0, 0, 0, 0, 0, 0, 0, 0, 0, 0, 0, 3, 0, 0, 0, 0, 0, 0, 0, 0, 0, 0, 1], rgs := [] }
def c325 : CFn := ⟨sq ([
oo 4 (.mv (.k (.nil 4)))]) (
.seq (sq ([
om 5 1,
oo 6 (.bin .lss (.t 5) (ki 0))]) (
.cond (.t 6) (
.region false [
oo 7 (.die),
oz (.die) 0]) (.skip))) (
.seq (sq ([
om 8 1,
om 9 0,
oo 10 (.capn (.t 9)),
om 11 0,
oo 12 (.len 0 (.t 11)),
oo 13 (.bin .sub (.t 10) (.t 12)),
oo 14 (.bin .sub (.t 8) (.t 13)),
om 1 14]) (
sq ([
om 15 1,
oo 16 (.bin .gtr (.t 15) (ki 0))]) (
.cond (.t 16) (
.region false [
om 17 0,
om 18 0,
oo 19 (.capn (.t 18)),
oo 20 (.slc 4 (.t 17) none (some (.t 19))),
om 21 1,
oo 22 (.apz 4 56 [(.i .i64 0), (.i .i64 0), (.s []), (.l 4 [])] (.t 20) (.t 21)),
om 23 0,
oo 24 (.len 0 (.t 23)),
oo 25 (.slc 4 (.t 22) none (some (.t 24))),
om 0 25]) (.skip)))) (
sq ([
om 26 0,
om 4 26]) (
.ret)))), [.raw 4]⟩
def n325 : Notes := { anns := [], frz := [0, 0, 0, 0, 0, 0, 0, 0, 0, 0, 0, 0, 0, 0, 0, 0, 0, 0, 0, 0, 1], rgs := [], raw := true }
end Ab
