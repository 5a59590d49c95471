/-
 X: compiled functions: printed by a program of the workbench; the kernel checks each against the model's code.
-/
import Derived.Test.YtblhbdagpefloaaGreatDoorPack3
import Derived.Test.YtblhbdagpefloaaGreatDoorW1
namespace Ab
def c108 : CFn := ⟨.seq (.region false [
oo 2 (.mv (.k (.d .np)))]) (
.seq (.region false [
oo 3 (.mv (.t 0)),
oo 4 (.build [(.nil 1), (.d (.i .i64 0))] [(0, 1, .t 3)]),
oo 5 (.box (.t 4)),
oo 2 (.mv (.t 5))]) (
.ret)), [.slot 2]⟩
def n108 : Notes := { anns := [], frz := [], rgs := [] }
def c109 : CFn := ⟨.seq (.region false [
oo 4 (.zero (.agg [(.d (.i .i64 0)), (.d (.i .i64 0)), (.d (.s [])), (.nil 4)]))]) (
.seq (.seq (.region false [
oo 15 (.mv (.t 0)),
oo 16 (.call 123 [.t 15, (.k (.d (.i .i64 9)))] 4 true),
oo 5 (.mv (.t 16))]) (
.block 0 (.seq (.region false [
oo 18 (.mv (.t 5)),
oo 19 (.bin .lss (.t 18) (.k (.d (.i .i64 3)))),
oo 17 (.mv (.t 19))]) (
.cond (.t 17) (
.seq (.region false [
oo 20 (.bsl 1 7 [(.i .i64 0)] [(0, (.k (.d (.i .i64 0)))), (1, (.k (.d (.i .i64 1)))), (2, (.k (.d (.i .i64 2)))), (3, (.k (.d (.i .i64 (-1))))), (4, (.k (.d (.i .i64 7)))), (5, (.k (.d (.i .i64 9223372036854775807)))), (6, (.k (.d (.i .i64 (-9223372036854775808)))))]),
oo 21 (.mv (.t 0)),
oo 22 (.call 123 [.t 21, (.k (.d (.i .i64 7)))] 4 true),
oo 23 (.ia 1 (.t 20) (.t 22)),
oo 24 (.ld false 1 (.t 23)),
oo 25 (.build [(.d (.i .i64 0)), (.d (.i .i64 0)), (.d (.s [])), (.nil 4)] [(0, 1, (.k (.d (.i .i64 1)))), (1, 1, .t 24)]),
⟨none, .st 4 (.t 4) (.t 25), none, 0⟩]) (
.ret)) (.seq (.region false [
oo 27 (.mv (.t 5)),
oo 28 (.bin .eql (.t 27) (.k (.d (.i .i64 3)))),
oo 26 (.mv (.t 28))]) (
.cond (.t 26) (
.seq (.region false [
oo 29 (.mv (.t 0)),
oo 30 (.call 123 [.t 29, (.k (.d (.i .i64 2)))] 4 true),
oo 31 (.build [(.d (.i .i64 0)), (.d (.i .i64 0)), (.d (.s [])), (.nil 4)] [(0, 1, (.k (.d (.i .i64 2)))), (1, 1, .t 30)]),
⟨none, .st 4 (.t 4) (.t 31), none, 0⟩]) (
.ret)) (.seq (.region false [
oo 33 (.mv (.t 5)),
oo 34 (.bin .eql (.t 33) (.k (.d (.i .i64 4)))),
oo 35 (.mv (.t 34)),
⟨some 36, .mv (.t 1), (some (35, false)), 0⟩,
⟨some 37, .bin .eql (.t 36) (.k (.d (.i .i64 0))), (some (35, false)), 0⟩,
oo 38 (.pick (.t 35) (.k (.d (.b true))) (.t 37)),
oo 32 (.mv (.t 38))]) (
.cond (.t 32) (
.seq (.region false [
oo 39 (.bsl 1 5 [(.s [])] [(0, (.k (.d (.s [])))), (1, (.k (.d (.s [97])))), (2, (.k (.d (.s [98])))), (3, (.k (.d (.s [97, 98])))), (4, (.k (.d (.s [97, 45, 116, 101, 120, 116, 45, 111, 102, 45, 50, 49, 45, 98, 121, 116, 101, 115, 45, 120, 120]))))]),
oo 40 (.mv (.t 0)),
oo 41 (.call 123 [.t 40, (.k (.d (.i .i64 5)))] 4 true),
oo 42 (.ia 1 (.t 39) (.t 41)),
oo 43 (.ld false 1 (.t 42)),
oo 44 (.build [(.d (.i .i64 0)), (.d (.i .i64 0)), (.d (.s [])), (.nil 4)] [(0, 1, (.k (.d (.i .i64 3)))), (2, 1, .t 43)]),
⟨none, .st 4 (.t 4) (.t 44), none, 0⟩]) (
.ret)) (.seq (.region false [
oo 46 (.mv (.t 5)),
oo 47 (.bin .eql (.t 46) (.k (.d (.i .i64 5)))),
oo 45 (.mv (.t 47))]) (
.cond (.t 45) (
.seq (.region false [
oo 48 (.mv (.t 0)),
oo 49 (.mv (.t 1)),
oo 50 (.call 124 [.t 48, .t 49] 4 true),
oo 51 (.build [(.d (.i .i64 0)), (.d (.i .i64 0)), (.d (.s [])), (.nil 4)] [(0, 1, (.k (.d (.i .i64 4)))), (3, 1, .t 50)]),
⟨none, .st 4 (.t 4) (.t 51), none, 0⟩]) (
.ret)) (.seq (.region false [
oo 53 (.mv (.t 5)),
oo 54 (.bin .eql (.t 53) (.k (.d (.i .i64 6)))),
oo 52 (.mv (.t 54))]) (
.cond (.t 52) (
.seq (.region false [
oo 55 (.build [(.d (.i .i64 0)), (.d (.i .i64 0)), (.d (.s [])), (.nil 4)] [(0, 1, (.k (.d (.i .i64 5))))]),
oo 6 (.zero (.agg [(.d (.i .i64 0)), (.d (.i .i64 0)), (.d (.s [])), (.nil 4)])),
⟨none, .st 4 (.t 6) (.t 55), none, 0⟩]) (
.seq (.region false [
oo 56 (.mv (.t 0)),
oo 57 (.mv (.t 1)),
oo 58 (.call 124 [.t 56, .t 57] 4 true),
oo 7 (.mv (.t 58))]) (
.seq (.seq (.region false [
oo 8 (.mv (.k (.d (.i .i64 0))))]) (
.block 1 (.loop ⟨[4, 6, 7, 8], [], [], [], [(6, 3)], true⟩ (.seq (.seq (.region false [
oo 59 (.mv (.t 8)),
oo 60 (.mv (.t 7)),
oo 61 (.len 0 (.t 60)),
oo 62 (.bin .lss (.t 59) (.t 61))]) (
.cond (.t 62) (
.skip) (.exit 1))) (
.seq (.block 2 (.region true [
oo 65 (.fa 3 (.t 6)),
⟨some 66, .ld false 1 (.t 65), none, 1⟩,
oo 67 (.mv (.t 7)),
oo 68 (.mv (.t 8)),
⟨some 69, .ia 4 (.t 67) (.t 68), none, 12⟩,
⟨some 70, .ld true 4 (.t 69), none, 28⟩,
⟨some 71, .call 117 [.t 66, .t 70] 0 true, none, 63⟩,
⟨some 72, .fa 3 (.t 6), none, 127⟩,
⟨none, .st 1 (.t 72) (.t 71), none, 255⟩])) (
.region false [
oo 63 (.mv (.t 8)),
oo 64 (.bin .add (.t 63) (.k (.d (.i .i64 1)))),
oo 8 (.mv (.t 64))])))))) (
.seq (.region false [
oo 73 (.ld true 4 (.t 6)),
⟨none, .st 4 (.t 4) (.t 73), none, 0⟩]) (
.ret))))) (.skip))))))))))))) (
.seq (.region false [
oo 74 (.build [(.d (.i .i64 0)), (.d (.i .i64 0)), (.d (.s [])), (.nil 4)] [(0, 1, (.k (.d (.i .i64 6))))]),
oo 9 (.zero (.agg [(.d (.i .i64 0)), (.d (.i .i64 0)), (.d (.s [])), (.nil 4)])),
⟨none, .st 4 (.t 9) (.t 74), none, 0⟩]) (
.seq (.seq (.region false [
oo 75 (.mv (.t 0)),
oo 76 (.call 123 [.t 75, (.k (.d (.i .i64 3)))] 4 true),
oo 10 (.mv (.t 76))]) (
.block 3 (.loop ⟨[0, 1, 4, 9, 10], [], [], [], [(9, 3)], true⟩ (.seq (.seq (.region false [
oo 77 (.mv (.t 10)),
oo 78 (.bin .gtr (.t 77) (.k (.d (.i .i64 0))))]) (
.cond (.t 78) (
.skip) (.exit 3))) (
.seq (.block 4 (.seq (.region false [
oo 81 (.bsl 1 3 [(.s [])] [(0, (.k (.d (.s [97])))), (1, (.k (.d (.s [98])))), (2, (.k (.d (.s [99]))))]),
oo 82 (.mv (.t 0)),
oo 83 (.call 123 [.t 82, (.k (.d (.i .i64 3)))] 4 true),
oo 84 (.ia 1 (.t 81) (.t 83)),
oo 85 (.ld false 1 (.t 84)),
oo 86 (.build [(.d (.i .i64 0)), (.d (.i .i64 0)), (.d (.s [])), (.nil 4)] [(0, 1, (.k (.d (.i .i64 3)))), (2, 1, .t 85)]),
oo 11 (.zero (.agg [(.d (.i .i64 0)), (.d (.i .i64 0)), (.d (.s [])), (.nil 4)])),
⟨none, .st 4 (.t 11) (.t 86), none, 0⟩]) (
.seq (.region false [
oo 88 (.fa 3 (.t 9)),
oo 89 (.ld false 1 (.t 88)),
oo 90 (.fa 2 (.t 11)),
oo 91 (.ld false 1 (.t 90)),
oo 92 (.call 120 [.t 89, .t 91] 0 true),
oo 87 (.mv (.t 92)),
oo 93 (.ext (.t 87) 0),
oo 94 (.ext (.t 87) 1),
oo 12 (.mv (.t 93)),
oo 13 (.mv (.t 94))]) (
.seq (.region false [
oo 95 (.mv (.t 13)),
oo 96 (.un .not (.t 95))]) (
.cond (.t 96) (
.seq (.region true [
oo 97 (.ld true 4 (.t 11)),
oo 98 (.mv (.t 0)),
oo 99 (.mv (.t 1)),
⟨some 100, .bin .sub (.t 99) (.k (.d (.i .i64 1))), none, 4⟩,
⟨some 101, .call 109 [.t 98, .t 100] 4 true, none, 14⟩,
⟨some 102, .bsl 4 2 [(.i .i64 0), (.i .i64 0), (.s []), (.l 4 [])] [(0, .t 97), (1, .t 101)], none, 31⟩,
⟨some 103, .build [(.d (.i .i64 0)), (.d (.i .i64 0)), (.d (.s [])), (.nil 4)] [(0, 1, (.k (.d (.i .i64 4)))), (3, 1, .t 102)], none, 63⟩,
oo 14 (.zero (.agg [(.d (.i .i64 0)), (.d (.i .i64 0)), (.d (.s [])), (.nil 4)])),
⟨none, .st 4 (.t 14) (.t 103), none, 255⟩]) (
.region true [
oo 104 (.bsl 4 0 [(.i .i64 0), (.i .i64 0), (.s []), (.l 4 [])] []),
oo 105 (.fa 3 (.t 9)),
⟨some 106, .ld false 1 (.t 105), none, 2⟩,
oo 107 (.mv (.t 12)),
⟨some 108, .slc 4 (.t 106) none (some (.t 107)), none, 14⟩,
⟨some 109, .app 4 56 (.t 104) (.t 108), none, 31⟩,
oo 110 (.ld true 4 (.t 14)),
⟨some 111, .bsl 4 1 [(.i .i64 0), (.i .i64 0), (.s []), (.l 4 [])] [(0, .t 110)], none, 64⟩,
⟨some 112, .app 4 56 (.t 109) (.t 111), none, 255⟩,
oo 113 (.fa 3 (.t 9)),
⟨some 114, .ld false 1 (.t 113), none, 512⟩,
oo 115 (.mv (.t 12)),
⟨some 116, .slc 4 (.t 114) (some (.t 115)) none, none, 3584⟩,
⟨some 117, .app 4 56 (.t 112) (.t 116), none, 8191⟩,
⟨some 118, .fa 3 (.t 9), none, 16383⟩,
⟨none, .st 1 (.t 118) (.t 117), none, 32767⟩])) (.skip)))))) (
.region false [
oo 79 (.mv (.t 10)),
oo 80 (.bin .sub (.t 79) (.k (.d (.i .i64 1)))),
oo 10 (.mv (.t 80))])))))) (
.seq (.region false [
oo 119 (.ld true 4 (.t 9)),
⟨none, .st 4 (.t 4) (.t 119), none, 0⟩]) (
.ret))))), [.cell 4 true 4]⟩
def n109 : Notes := { anns := [⟨[4, 6, 7, 8], [], [], [], [(6, 3)], true⟩, ⟨[0, 1, 4, 9, 10], [], [], [], [(9, 3)], true⟩], frz := [], rgs := [] }
def c111 : CFn := ⟨.seq (.region false [
oo 1 (.box (.t 0)),
oo 2 (.mv (.k (.d (.b false))))]) (
.seq (.region false [
oo 3 (.ld true 4 (.t 1)),
oo 4 (.call 112 [.t 3] 0 true),
oo 5 (.bin .leq (.t 4) (.k (.d (.i .i64 60)))),
oo 6 (.mv (.t 5)),
⟨some 7, .ld true 4 (.t 1), (some (6, true)), 0⟩,
⟨some 8, .call 125 [.t 7] 0 true, (some (6, true)), 0⟩,
oo 9 (.pick (.t 6) (.t 8) (.k (.d (.b false)))),
oo 2 (.mv (.t 9))]) (
.ret)), [.slot 2]⟩
def n111 : Notes := { anns := [], frz := [], rgs := [] }
def c112 : CFn := ⟨.seq (.region false [
oo 1 (.box (.t 0)),
oo 2 (.mv (.k (.d (.i .i64 0))))]) (
.seq (.region false [
oo 6 (.fa 2 (.t 1)),
oo 7 (.ld false 1 (.t 6)),
oo 8 (.len 1 (.t 7)),
oo 9 (.bin .quo (.t 8) (.k (.d (.i .i64 16)))),
oo 10 (.bin .add (.k (.d (.i .i64 1))) (.t 9)),
oo 3 (.mv (.t 10))]) (
.seq (.seq (.region false [
oo 11 (.fa 3 (.t 1)),
oo 12 (.ld false 1 (.t 11)),
oo 13 (.len 0 (.t 12)),
oo 14 (.mv (.k (.d (.i .i64 0))))]) (
.block 0 (.loop ⟨[3, 12, 13, 14], [], [], [], [], true⟩ (.seq (.region false [
oo 15 (.bin .lss (.t 14) (.t 13))]) (
.seq (.cond (.t 15) (
.skip) (.exit 0)) (
.seq (.block 1 (.seq (.region false [
oo 16 (.ia 4 (.t 12) (.t 14)),
oo 17 (.ld true 4 (.t 16)),
oo 5 (.zero (.agg [(.d (.i .i64 0)), (.d (.i .i64 0)), (.d (.s [])), (.nil 4)])),
⟨none, .st 4 (.t 5) (.t 17), none, 0⟩]) (
.region false [
oo 18 (.mv (.t 3)),
oo 19 (.ld true 4 (.t 5)),
oo 20 (.call 112 [.t 19] 0 true),
oo 21 (.bin .add (.t 18) (.t 20)),
oo 3 (.mv (.t 21))]))) (
.region false [
oo 22 (.bin .add (.t 14) (.k (.d (.i .i64 1)))),
oo 14 (.mv (.t 22))]))))))) (
.seq (.region false [
oo 23 (.mv (.t 3)),
oo 2 (.mv (.t 23))]) (
.ret)))), [.slot 2]⟩
def n112 : Notes := { anns := [⟨[3, 12, 13, 14], [], [], [], [], true⟩], frz := [], rgs := [] }
def c114 : CFn := ⟨.seq (.region false [
oo 2 (.box (.t 0)),
oo 3 (.box (.t 1)),
oo 4 (.mv (.k (.d (.i .i64 0))))]) (
.seq (.region true [
oo 5 (.fa 0 (.t 2)),
⟨some 6, .ld false 1 (.t 5), none, 1⟩,
oo 7 (.fa 0 (.t 3)),
⟨some 8, .ld false 1 (.t 7), none, 4⟩,
⟨some 9, .call 127 [.t 6, .t 8] 0 true, none, 15⟩,
oo 10 (.fa 1 (.t 2)),
⟨some 11, .ld false 1 (.t 10), none, 32⟩,
oo 12 (.fa 1 (.t 3)),
⟨some 13, .ld false 1 (.t 12), none, 128⟩,
⟨some 14, .call 128 [.t 11, .t 13] 0 true, none, 511⟩,
oo 15 (.fa 2 (.t 2)),
⟨some 16, .ld false 1 (.t 15), none, 1024⟩,
oo 17 (.fa 2 (.t 3)),
⟨some 18, .ld false 1 (.t 17), none, 4096⟩,
⟨some 19, .call 129 [.t 16, .t 18] 0 true, none, 16383⟩,
oo 20 (.fa 3 (.t 2)),
⟨some 21, .ld false 1 (.t 20), none, 32768⟩,
oo 22 (.fa 3 (.t 3)),
⟨some 23, .ld false 1 (.t 22), none, 131072⟩,
⟨some 24, .call 130 [.t 21, .t 23, (.k (.d (.f 114 [] [])))] 4 true, none, 524287⟩,
⟨some 25, .bsl 1 4 [(.i .i64 0)] [(0, .t 9), (1, .t 14), (2, .t 19), (3, .t 24)], none, 1048575⟩,
⟨some 26, .call 126 [.t 25] 0 true, none, 2097151⟩,
⟨some 4, .mv (.t 26), none, 4194303⟩]) (
.ret)), [.slot 4]⟩
def n114 : Notes := { anns := [], frz := [], rgs := [] }
def c115 : CFn := ⟨.seq (.region false [
oo 2 (.box (.t 0)),
oo 3 (.box (.t 1)),
oo 4 (.mv (.k (.d (.i .i64 0))))]) (
.seq (.block 0 (.seq (.region false [
oo 8 (.fa 0 (.t 2)),
oo 9 (.ld false 1 (.t 8)),
oo 10 (.fa 0 (.t 3)),
oo 11 (.ld false 1 (.t 10)),
oo 12 (.bin .neq (.t 9) (.t 11)),
oo 7 (.mv (.t 12))]) (
.cond (.t 7) (
.seq (.region false [
oo 13 (.fa 0 (.t 2)),
oo 14 (.ld false 1 (.t 13)),
oo 15 (.fa 0 (.t 3)),
oo 16 (.ld false 1 (.t 15)),
oo 17 (.bin .lss (.t 14) (.t 16)),
oo 18 (.call 131 [.t 17] 0 true),
oo 4 (.mv (.t 18))]) (
.ret)) (.seq (.region false [
oo 20 (.fa 1 (.t 2)),
oo 21 (.ld false 1 (.t 20)),
oo 22 (.fa 1 (.t 3)),
oo 23 (.ld false 1 (.t 22)),
oo 24 (.bin .neq (.t 21) (.t 23)),
oo 19 (.mv (.t 24))]) (
.cond (.t 19) (
.seq (.region false [
oo 25 (.fa 1 (.t 2)),
oo 26 (.ld false 1 (.t 25)),
oo 27 (.fa 1 (.t 3)),
oo 28 (.ld false 1 (.t 27)),
oo 29 (.bin .lss (.t 26) (.t 28)),
oo 30 (.call 131 [.t 29] 0 true),
oo 4 (.mv (.t 30))]) (
.ret)) (.seq (.region false [
oo 32 (.fa 2 (.t 2)),
oo 33 (.ld false 1 (.t 32)),
oo 34 (.fa 2 (.t 3)),
oo 35 (.ld false 1 (.t 34)),
oo 36 (.bin .neq (.t 33) (.t 35)),
oo 31 (.mv (.t 36))]) (
.cond (.t 31) (
.seq (.region false [
oo 37 (.fa 2 (.t 2)),
oo 38 (.ld false 1 (.t 37)),
oo 39 (.fa 2 (.t 3)),
oo 40 (.ld false 1 (.t 39)),
oo 41 (.bin .lss (.t 38) (.t 40)),
oo 42 (.call 131 [.t 41] 0 true),
oo 4 (.mv (.t 42))]) (
.ret)) (.skip)))))))) (
.seq (.seq (.region false [
oo 5 (.mv (.k (.d (.i .i64 0))))]) (
.block 1 (.loop ⟨[2, 3, 5], [], [], [], [], true⟩ (.seq (.seq (.region false [
oo 43 (.mv (.t 5)),
oo 44 (.fa 3 (.t 2)),
oo 45 (.ld false 1 (.t 44)),
oo 46 (.len 0 (.t 45)),
oo 47 (.bin .lss (.t 43) (.t 46)),
oo 48 (.mv (.t 47)),
⟨some 49, .mv (.t 5), (some (48, true)), 0⟩,
⟨some 50, .fa 3 (.t 3), (some (48, true)), 0⟩,
⟨some 51, .ld false 1 (.t 50), (some (48, true)), 0⟩,
⟨some 52, .len 0 (.t 51), (some (48, true)), 0⟩,
⟨some 53, .bin .lss (.t 49) (.t 52), (some (48, true)), 0⟩,
oo 54 (.pick (.t 48) (.t 53) (.k (.d (.b false))))]) (
.cond (.t 54) (
.skip) (.exit 1))) (
.seq (.block 2 (.seq (.region true [
oo 57 (.fa 3 (.t 2)),
⟨some 58, .ld false 1 (.t 57), none, 1⟩,
oo 59 (.mv (.t 5)),
⟨some 60, .ia 4 (.t 58) (.t 59), none, 7⟩,
⟨some 61, .ld true 4 (.t 60), none, 15⟩,
oo 62 (.fa 3 (.t 3)),
⟨some 63, .ld false 1 (.t 62), none, 32⟩,
oo 64 (.mv (.t 5)),
⟨some 65, .ia 4 (.t 63) (.t 64), none, 224⟩,
⟨some 66, .ld true 4 (.t 65), none, 480⟩,
⟨some 67, .call 115 [.t 61, .t 66] 0 true, none, 1023⟩,
⟨some 6, .mv (.t 67), none, 2047⟩]) (
.seq (.region false [
oo 68 (.mv (.t 6)),
oo 69 (.bin .neq (.t 68) (.k (.d (.i .i64 0))))]) (
.cond (.t 69) (
.seq (.region false [
oo 70 (.mv (.t 6)),
oo 4 (.mv (.t 70))]) (
.ret)) (.skip))))) (
.region false [
oo 55 (.mv (.t 5)),
oo 56 (.bin .add (.t 55) (.k (.d (.i .i64 1)))),
oo 5 (.mv (.t 56))])))))) (
.seq (.seq (.region false [
oo 71 (.fa 3 (.t 2)),
oo 72 (.ld false 1 (.t 71)),
oo 73 (.len 0 (.t 72)),
oo 74 (.fa 3 (.t 3)),
oo 75 (.ld false 1 (.t 74)),
oo 76 (.len 0 (.t 75)),
oo 77 (.bin .eql (.t 73) (.t 76))]) (
.cond (.t 77) (
.seq (.region false [
oo 4 (.mv (.k (.d (.i .i64 0))))]) (
.ret)) (.skip))) (
.seq (.region false [
oo 78 (.fa 3 (.t 2)),
oo 79 (.ld false 1 (.t 78)),
oo 80 (.len 0 (.t 79)),
oo 81 (.fa 3 (.t 3)),
oo 82 (.ld false 1 (.t 81)),
oo 83 (.len 0 (.t 82)),
oo 84 (.bin .lss (.t 80) (.t 83)),
oo 85 (.call 131 [.t 84] 0 true),
oo 4 (.mv (.t 85))]) (
.ret))))), [.slot 4]⟩
def n115 : Notes := { anns := [⟨[2, 3, 5], [], [], [], [], true⟩], frz := [], rgs := [] }
def c116 : CFn := ⟨.seq (.region false [
oo 3 (.box (.t 1)),
oo 4 (.mv (.k (.nil 4)))]) (
.seq (.region false [
oo 8 (.mv (.t 0)),
oo 9 (.build [(.d (.i .i64 0)), (.d (.i .i64 0)), (.d (.s [])), (.nil 4)] [(3, 1, .t 8)]),
oo 10 (.call 132 [.t 9] 4 false),
oo 11 (.fl false 3 1 (.t 10)),
oo 5 (.mv (.t 11))]) (
.seq (.region false [
oo 13 (.mv (.t 0)),
oo 14 (.ld true 4 (.t 3)),
oo 15 (.call 133 [.t 13, .t 14, (.k (.d (.f 114 [] [])))] 4 true),
oo 12 (.mv (.t 15)),
oo 16 (.ext (.t 12) 0),
oo 17 (.ext (.t 12) 1),
oo 6 (.mv (.t 16)),
oo 7 (.mv (.t 17))]) (
.seq (.seq (.region false [
oo 18 (.mv (.t 7))]) (
.cond (.t 18) (
.seq (.region false [
oo 19 (.mv (.t 5)),
oo 4 (.mv (.t 19))]) (
.ret)) (.skip))) (
.seq (.region false [
oo 20 (.mv (.t 5)),
oo 21 (.mv (.t 6)),
oo 22 (.ld true 4 (.t 3)),
oo 23 (.call 132 [.t 22] 0 true),
oo 24 (.bsl 4 1 [(.i .i64 0), (.i .i64 0), (.s []), (.l 4 [])] [(0, .t 23)]),
oo 25 (.call 134 [.t 20, .t 21, .t 24] 0 true),
oo 4 (.mv (.t 25))]) (
.ret))))), [.slot 4]⟩
def n116 : Notes := { anns := [], frz := [0, 0, 0, 0, 1], rgs := [] }
def c117 : CFn := ⟨.seq (.region false [
oo 3 (.box (.t 1)),
oo 4 (.mv (.k (.nil 4)))]) (
.seq (.region false [
oo 5 (.mv (.k (.d (.i .i64 0))))]) (
.seq (.block 0 (.loop ⟨[0, 3, 5], [], [], [], [], true⟩ (.seq (.seq (.region true [
oo 6 (.mv (.t 5)),
oo 7 (.mv (.t 0)),
⟨some 8, .len 0 (.t 7), none, 2⟩,
⟨some 9, .bin .lss (.t 6) (.t 8), none, 7⟩,
⟨some 10, .mv (.t 9), none, 15⟩,
⟨some 11, .mv (.t 0), (some (10, true)), 31⟩,
⟨some 12, .mv (.t 5), (some (10, true)), 31⟩,
⟨some 13, .ia 4 (.t 11) (.t 12), (some (10, true)), 127⟩,
⟨some 14, .ld true 4 (.t 13), (some (10, true)), 255⟩,
⟨some 15, .ld true 4 (.t 3), (some (10, true)), 31⟩,
⟨some 16, .call 115 [.t 14, .t 15] 0 true, (some (10, true)), 1023⟩,
⟨some 17, .bin .lss (.t 16) (.k (.d (.i .i64 0))), (some (10, true)), 2047⟩,
⟨some 18, .pick (.t 10) (.t 17) (.k (.d (.b false))), none, 4095⟩]) (
.cond (.t 18) (
.skip) (.exit 0))) (
.block 1 (.region false [
oo 19 (.mv (.t 5)),
oo 20 (.bin .add (.t 19) (.k (.d (.i .i64 1)))),
oo 5 (.mv (.t 20))]))))) (
.seq (.seq (.region true [
oo 21 (.mv (.t 5)),
oo 22 (.mv (.t 0)),
⟨some 23, .len 0 (.t 22), none, 2⟩,
⟨some 24, .bin .lss (.t 21) (.t 23), none, 7⟩,
⟨some 25, .mv (.t 24), none, 15⟩,
⟨some 26, .mv (.t 0), (some (25, true)), 31⟩,
⟨some 27, .mv (.t 5), (some (25, true)), 31⟩,
⟨some 28, .ia 4 (.t 26) (.t 27), (some (25, true)), 127⟩,
⟨some 29, .ld true 4 (.t 28), (some (25, true)), 255⟩,
⟨some 30, .ld true 4 (.t 3), (some (25, true)), 31⟩,
⟨some 31, .call 115 [.t 29, .t 30] 0 true, (some (25, true)), 1023⟩,
⟨some 32, .bin .eql (.t 31) (.k (.d (.i .i64 0))), (some (25, true)), 2047⟩,
⟨some 33, .pick (.t 25) (.t 32) (.k (.d (.b false))), none, 4095⟩]) (
.cond (.t 33) (
.seq (.region false [
oo 34 (.bsl 4 0 [(.i .i64 0), (.i .i64 0), (.s []), (.l 4 [])] []),
oo 35 (.mv (.t 0)),
oo 36 (.app 4 56 (.t 34) (.t 35)),
oo 4 (.mv (.t 36))]) (
.ret)) (.skip))) (
.seq (.region true [
oo 37 (.bsl 4 0 [(.i .i64 0), (.i .i64 0), (.s []), (.l 4 [])] []),
oo 38 (.mv (.t 0)),
oo 39 (.mv (.t 5)),
⟨some 40, .slc 4 (.t 38) none (some (.t 39)), none, 6⟩,
⟨some 41, .app 4 56 (.t 37) (.t 40), none, 15⟩,
oo 42 (.ld true 4 (.t 3)),
⟨some 43, .bsl 4 1 [(.i .i64 0), (.i .i64 0), (.s []), (.l 4 [])] [(0, .t 42)], none, 32⟩,
⟨some 44, .app 4 56 (.t 41) (.t 43), none, 127⟩,
oo 45 (.mv (.t 0)),
oo 46 (.mv (.t 5)),
⟨some 47, .slc 4 (.t 45) (some (.t 46)) none, none, 768⟩,
⟨some 48, .app 4 56 (.t 44) (.t 47), none, 2047⟩,
⟨some 4, .mv (.t 48), none, 4095⟩]) (
.ret))))), [.slot 4]⟩
def n117 : Notes := { anns := [⟨[0, 3, 5], [], [], [], [], true⟩], frz := [], rgs := [] }
def c119 : CFn := ⟨.seq (.region false [
oo 4 (.mv (.k (.d (.i .i64 0)))),
oo 5 (.mv (.k (.d (.b false))))]) (
.seq (.region false [
oo 6 (.mv (.t 0)),
oo 7 (.mv (.t 1)),
oo 8 (.call 135 [.t 6, .t 7, (.k (.d (.f 136 [] [])))] 4 true),
oo 9 (.ext (.t 8) 0),
oo 10 (.ext (.t 8) 1),
oo 4 (.mv (.t 9)),
oo 5 (.mv (.t 10))]) (
.ret)), [.slot 4, .slot 5]⟩
def n119 : Notes := { anns := [], frz := [], rgs := [] }
def c120 : CFn := ⟨.seq (.region false [
oo 4 (.mv (.k (.d (.i .i64 0)))),
oo 5 (.mv (.k (.d (.b false))))]) (
.seq (.region false [
oo 6 (.mv (.k (.d (.i .i64 0))))]) (
.seq (.block 0 (.loop ⟨[0, 1, 6], [], [], [], [], true⟩ (.seq (.seq (.region false [
oo 7 (.mv (.t 6)),
oo 8 (.mv (.t 0)),
oo 9 (.len 0 (.t 8)),
oo 10 (.bin .lss (.t 7) (.t 9)),
oo 11 (.mv (.t 10)),
⟨some 12, .mv (.t 0), (some (11, true)), 0⟩,
⟨some 13, .mv (.t 6), (some (11, true)), 0⟩,
⟨some 14, .ia 4 (.t 12) (.t 13), (some (11, true)), 0⟩,
⟨some 15, .ld true 4 (.t 14), (some (11, true)), 0⟩,
⟨some 16, .call 138 [.t 15] 0 true, (some (11, true)), 0⟩,
⟨some 17, .mv (.t 1), (some (11, true)), 0⟩,
⟨some 18, .bin .lss (.t 16) (.t 17), (some (11, true)), 0⟩,
oo 19 (.pick (.t 11) (.t 18) (.k (.d (.b false))))]) (
.cond (.t 19) (
.skip) (.exit 0))) (
.block 1 (.region false [
oo 20 (.mv (.t 6)),
oo 21 (.bin .add (.t 20) (.k (.d (.i .i64 1)))),
oo 6 (.mv (.t 21))]))))) (
.seq (.region false [
oo 22 (.mv (.t 6)),
oo 23 (.mv (.t 6)),
oo 24 (.mv (.t 0)),
oo 25 (.len 0 (.t 24)),
oo 26 (.bin .lss (.t 23) (.t 25)),
oo 27 (.mv (.t 26)),
⟨some 28, .mv (.t 0), (some (27, true)), 0⟩,
⟨some 29, .mv (.t 6), (some (27, true)), 0⟩,
⟨some 30, .ia 4 (.t 28) (.t 29), (some (27, true)), 0⟩,
⟨some 31, .fa 3 (.t 30), (some (27, true)), 0⟩,
⟨some 32, .ld false 1 (.t 31), (some (27, true)), 0⟩,
⟨some 33, .len 0 (.t 32), (some (27, true)), 0⟩,
⟨some 34, .bin .gtr (.t 33) (.k (.d (.i .i64 0))), (some (27, true)), 0⟩,
oo 35 (.pick (.t 27) (.t 34) (.k (.d (.b false)))),
oo 36 (.mv (.t 35)),
⟨some 37, .mv (.t 0), (some (36, true)), 0⟩,
⟨some 38, .mv (.t 6), (some (36, true)), 0⟩,
⟨some 39, .ia 4 (.t 37) (.t 38), (some (36, true)), 0⟩,
⟨some 40, .ld true 4 (.t 39), (some (36, true)), 0⟩,
⟨some 41, .call 138 [.t 40] 0 true, (some (36, true)), 0⟩,
⟨some 42, .mv (.t 1), (some (36, true)), 0⟩,
⟨some 43, .bin .eql (.t 41) (.t 42), (some (36, true)), 0⟩,
oo 44 (.pick (.t 36) (.t 43) (.k (.d (.b false)))),
oo 4 (.mv (.t 22)),
oo 5 (.mv (.t 44))]) (
.ret)))), [.slot 4, .slot 5]⟩
def n120 : Notes := { anns := [⟨[0, 1, 6], [], [], [], [], true⟩], frz := [], rgs := [] }
def c121 : CFn := ⟨.seq (.region false [
oo 2 (.box (.t 0)),
oo 3 (.box (.t 1)),
oo 4 (.mv (.k (.d (.b false))))]) (
.seq (.region false [
oo 5 (.ld true 4 (.t 2)),
oo 6 (.ld true 4 (.t 3)),
oo 7 (.call 115 [.t 5, .t 6] 0 true),
oo 8 (.bin .eql (.t 7) (.k (.d (.i .i64 0)))),
oo 4 (.mv (.t 8))]) (
.ret)), [.slot 4]⟩
def n121 : Notes := { anns := [], frz := [], rgs := [] }
def c123 : CFn := ⟨.seq (.region false [
oo 4 (.mv (.k (.d (.i .i64 0))))]) (
.seq (.seq (.region true [
oo 5 (.mv (.t 0)),
⟨some 6, .nilc (.t 5), none, 1⟩,
⟨some 7, .fa 1 (.t 6), none, 3⟩,
⟨some 8, .ld false 1 (.t 7), none, 7⟩,
oo 9 (.mv (.t 0)),
⟨some 10, .nilc (.t 9), none, 16⟩,
⟨some 11, .fa 0 (.t 10), none, 48⟩,
⟨some 12, .ld false 1 (.t 11), none, 112⟩,
⟨some 13, .len 0 (.t 12), none, 240⟩,
⟨some 14, .bin .geq (.t 8) (.t 13), none, 511⟩]) (
.cond (.t 14) (
.seq (.region false [
oo 4 (.mv (.k (.d (.i .i64 0))))]) (
.ret)) (.skip))) (
.seq (.region false [
oo 15 (.mv (.t 0)),
oo 16 (.nilc (.t 15)),
oo 17 (.fa 1 (.t 16)),
oo 18 (.ld false 1 (.t 17)),
oo 19 (.bin .add (.t 18) (.k (.d (.i .i64 1)))),
oo 20 (.nilc (.t 15)),
oo 21 (.fa 1 (.t 20)),
⟨none, .st 1 (.t 21) (.t 19), none, 0⟩]) (
.seq (.region true [
oo 22 (.mv (.t 0)),
⟨some 23, .nilc (.t 22), none, 1⟩,
⟨some 24, .fa 0 (.t 23), none, 3⟩,
⟨some 25, .ld false 1 (.t 24), none, 7⟩,
oo 26 (.mv (.t 0)),
⟨some 27, .nilc (.t 26), none, 16⟩,
⟨some 28, .fa 1 (.t 27), none, 48⟩,
⟨some 29, .ld false 1 (.t 28), none, 112⟩,
⟨some 30, .bin .sub (.t 29) (.k (.d (.i .i64 1))), none, 240⟩,
⟨some 31, .ia 1 (.t 25) (.t 30), none, 511⟩,
⟨some 32, .ld false 1 (.t 31), none, 1023⟩,
⟨some 33, .conv .i64 (.t 32), none, 2047⟩,
oo 34 (.mv (.t 1)),
⟨some 35, .bin .rem (.t 33) (.t 34), none, 8191⟩,
⟨some 4, .mv (.t 35), none, 16383⟩]) (
.ret)))), [.slot 4]⟩
def n123 : Notes := { anns := [], frz := [], rgs := [] }
def c124 : CFn := ⟨.seq (.region false [
oo 4 (.mv (.k (.nil 4)))]) (
.seq (.region false [
oo 5 (.mv (.k (.nil 4)))]) (
.seq (.seq (.region false [
oo 7 (.mv (.t 0)),
oo 8 (.call 123 [.t 7, (.k (.d (.i .i64 4)))] 4 true),
oo 6 (.mv (.t 8))]) (
.block 0 (.loop ⟨[0, 1, 5, 6], [5], [], [], [], true⟩ (.seq (.seq (.region false [
oo 9 (.mv (.t 6)),
oo 10 (.bin .gtr (.t 9) (.k (.d (.i .i64 0))))]) (
.cond (.t 10) (
.skip) (.exit 0))) (
.seq (.block 1 (.region false [
oo 13 (.mv (.t 5)),
oo 14 (.mv (.t 0)),
oo 15 (.mv (.t 1)),
oo 16 (.bin .sub (.t 15) (.k (.d (.i .i64 1)))),
oo 17 (.call 109 [.t 14, .t 16] 4 true),
oo 18 (.bsl 4 1 [(.i .i64 0), (.i .i64 0), (.s []), (.l 4 [])] [(0, .t 17)]),
oo 19 (.app 4 56 (.t 13) (.t 18)),
oo 5 (.mv (.t 19))])) (
.region false [
oo 11 (.mv (.t 6)),
oo 12 (.bin .sub (.t 11) (.k (.d (.i .i64 1)))),
oo 6 (.mv (.t 12))])))))) (
.seq (.region false [
oo 20 (.mv (.t 5)),
oo 4 (.mv (.t 20))]) (
.ret)))), [.slot 4]⟩
def n124 : Notes := { anns := [⟨[0, 1, 5, 6], [5], [], [], [], true⟩], frz := [], rgs := [] }
def c125 : CFn := ⟨.seq (.region false [
oo 1 (.box (.t 0)),
oo 2 (.mv (.k (.d (.b false))))]) (
.seq (.seq (.region false [
oo 3 (.fa 0 (.t 1)),
oo 4 (.ld false 1 (.t 3)),
oo 5 (.bin .lss (.t 4) (.k (.d (.i .i64 1)))),
oo 6 (.mv (.t 5)),
⟨some 7, .fa 0 (.t 1), (some (6, false)), 0⟩,
⟨some 8, .ld false 1 (.t 7), (some (6, false)), 0⟩,
⟨some 9, .bin .gtr (.t 8) (.k (.d (.i .i64 7))), (some (6, false)), 0⟩,
oo 10 (.pick (.t 6) (.k (.d (.b true))) (.t 9)),
oo 11 (.mv (.t 10)),
⟨some 12, .ld true 4 (.t 1), (some (11, false)), 0⟩,
⟨some 13, .call 139 [.t 12] 0 true, (some (11, false)), 0⟩,
⟨some 14, .un .not (.t 13), (some (11, false)), 0⟩,
oo 15 (.pick (.t 11) (.k (.d (.b true))) (.t 14)),
oo 16 (.mv (.t 15)),
⟨some 17, .fa 0 (.t 1), (some (16, false)), 0⟩,
⟨some 18, .ld false 1 (.t 17), (some (16, false)), 0⟩,
⟨some 19, .bin .neq (.t 18) (.k (.d (.i .i64 3))), (some (16, false)), 0⟩,
⟨some 20, .mv (.t 19), (some (16, false)), 0⟩,
⟨some 21, .fa 2 (.t 1), (some (20, true)), 0⟩,
⟨some 22, .ld false 1 (.t 21), (some (20, true)), 0⟩,
⟨some 23, .bin .neq (.t 22) (.k (.d (.s []))), (some (20, true)), 0⟩,
⟨some 24, .pick (.t 20) (.t 23) (.k (.d (.b false))), (some (16, false)), 0⟩,
oo 25 (.pick (.t 16) (.k (.d (.b true))) (.t 24)),
oo 26 (.mv (.t 25)),
⟨some 27, .ld true 4 (.t 1), (some (26, false)), 0⟩,
⟨some 28, .call 140 [.t 27] 0 true, (some (26, false)), 0⟩,
⟨some 29, .un .not (.t 28), (some (26, false)), 0⟩,
oo 30 (.pick (.t 26) (.k (.d (.b true))) (.t 29))]) (
.cond (.t 30) (
.seq (.region false [
oo 2 (.mv (.k (.d (.b false))))]) (
.ret)) (.skip))) (
.seq (.region false [
oo 31 (.fa 3 (.t 1)),
oo 32 (.ld false 1 (.t 31)),
oo 33 (.call 141 [.t 32, (.k (.d (.f 142 [] [])))] 4 true),
oo 34 (.un .not (.t 33)),
oo 2 (.mv (.t 34))]) (
.ret))), [.slot 2]⟩
def n125 : Notes := { anns := [], frz := [], rgs := [] }
def c126 : CFn := ⟨.seq (.region false [
oo 2 (.mv (.k (.d (.i .i64 0))))]) (
.seq (.region false [
oo 3 (.mv (.k (.d (.i .i64 0))))]) (
.seq (.seq (.region false [
oo 6 (.mv (.t 0)),
oo 7 (.len 0 (.t 6)),
oo 8 (.mv (.k (.d (.i .i64 0))))]) (
.block 0 (.loop ⟨[3, 6, 7, 8], [], [], [], [], true⟩ (.seq (.region false [
oo 9 (.bin .lss (.t 8) (.t 7))]) (
.seq (.cond (.t 9) (
.skip) (.exit 0)) (
.seq (.block 1 (.seq (.region false [
oo 10 (.ia 1 (.t 6) (.t 8)),
oo 11 (.ld false 1 (.t 10)),
oo 5 (.mv (.t 11))]) (
.seq (.region false [
oo 12 (.mv (.t 5)),
oo 13 (.mv (.t 3)),
oo 14 (.bin .neq (.t 12) (.t 13))]) (
.cond (.t 14) (
.seq (.region false [
oo 15 (.mv (.t 5)),
oo 2 (.mv (.t 15))]) (
.ret)) (.skip))))) (
.region false [
oo 16 (.bin .add (.t 8) (.k (.d (.i .i64 1)))),
oo 8 (.mv (.t 16))]))))))) (
.seq (.region false [
oo 17 (.mv (.t 3)),
oo 2 (.mv (.t 17))]) (
.ret)))), [.slot 2]⟩
def n126 : Notes := { anns := [⟨[3, 6, 7, 8], [], [], [], [], true⟩], frz := [], rgs := [] }
def c127 : CFn := ⟨.seq (.region false [
oo 4 (.mv (.k (.d (.i .i64 0))))]) (
.seq (.region false [
oo 7 (.mv (.t 0)),
oo 8 (.call 143 [.t 7] 0 true),
oo 5 (.mv (.t 8))]) (
.seq (.region false [
oo 9 (.mv (.t 1)),
oo 10 (.call 143 [.t 9] 0 true),
oo 6 (.mv (.t 10))]) (
.seq (.seq (.region false [
oo 11 (.mv (.t 5))]) (
.cond (.t 11) (
.seq (.seq (.region false [
oo 12 (.mv (.t 6))]) (
.cond (.t 12) (
.seq (.region false [
oo 4 (.mv (.k (.d (.i .i64 0))))]) (
.ret)) (.skip))) (
.seq (.region false [
oo 4 (.mv (.k (.d (.i .i64 (-1)))))]) (
.ret))) (.skip))) (
.seq (.seq (.region false [
oo 13 (.mv (.t 6))]) (
.cond (.t 13) (
.seq (.region false [
oo 4 (.mv (.k (.d (.i .i64 1))))]) (
.ret)) (.skip))) (
.seq (.seq (.region false [
oo 14 (.mv (.t 0)),
oo 15 (.mv (.t 1)),
oo 16 (.bin .lss (.t 14) (.t 15))]) (
.cond (.t 16) (
.seq (.region false [
oo 4 (.mv (.k (.d (.i .i64 (-1)))))]) (
.ret)) (.skip))) (
.seq (.seq (.region false [
oo 17 (.mv (.t 0)),
oo 18 (.mv (.t 1)),
oo 19 (.bin .gtr (.t 17) (.t 18))]) (
.cond (.t 19) (
.seq (.region false [
oo 4 (.mv (.k (.d (.i .i64 1))))]) (
.ret)) (.skip))) (
.seq (.region false [
oo 4 (.mv (.k (.d (.i .i64 0))))]) (
.ret)))))))), [.slot 4]⟩
def n127 : Notes := { anns := [], frz := [], rgs := [] }
def c128 : CFn := ⟨.seq (.region false [
oo 4 (.mv (.k (.d (.i .i64 0))))]) (
.seq (.region false [
oo 7 (.mv (.t 0)),
oo 8 (.call 144 [.t 7] 0 true),
oo 5 (.mv (.t 8))]) (
.seq (.region false [
oo 9 (.mv (.t 1)),
oo 10 (.call 144 [.t 9] 0 true),
oo 6 (.mv (.t 10))]) (
.seq (.seq (.region false [
oo 11 (.mv (.t 5))]) (
.cond (.t 11) (
.seq (.seq (.region false [
oo 12 (.mv (.t 6))]) (
.cond (.t 12) (
.seq (.region false [
oo 4 (.mv (.k (.d (.i .i64 0))))]) (
.ret)) (.skip))) (
.seq (.region false [
oo 4 (.mv (.k (.d (.i .i64 (-1)))))]) (
.ret))) (.skip))) (
.seq (.seq (.region false [
oo 13 (.mv (.t 6))]) (
.cond (.t 13) (
.seq (.region false [
oo 4 (.mv (.k (.d (.i .i64 1))))]) (
.ret)) (.skip))) (
.seq (.seq (.region false [
oo 14 (.mv (.t 0)),
oo 15 (.mv (.t 1)),
oo 16 (.bin .lss (.t 14) (.t 15))]) (
.cond (.t 16) (
.seq (.region false [
oo 4 (.mv (.k (.d (.i .i64 (-1)))))]) (
.ret)) (.skip))) (
.seq (.seq (.region false [
oo 17 (.mv (.t 0)),
oo 18 (.mv (.t 1)),
oo 19 (.bin .gtr (.t 17) (.t 18))]) (
.cond (.t 19) (
.seq (.region false [
oo 4 (.mv (.k (.d (.i .i64 1))))]) (
.ret)) (.skip))) (
.seq (.region false [
oo 4 (.mv (.k (.d (.i .i64 0))))]) (
.ret)))))))), [.slot 4]⟩
def n128 : Notes := { anns := [], frz := [], rgs := [] }
def c129 : CFn := ⟨.seq (.region false [
oo 4 (.mv (.k (.d (.i .i64 0))))]) (
.seq (.region false [
oo 7 (.mv (.t 0)),
oo 8 (.call 145 [.t 7] 0 true),
oo 5 (.mv (.t 8))]) (
.seq (.region false [
oo 9 (.mv (.t 1)),
oo 10 (.call 145 [.t 9] 0 true),
oo 6 (.mv (.t 10))]) (
.seq (.seq (.region false [
oo 11 (.mv (.t 5))]) (
.cond (.t 11) (
.seq (.seq (.region false [
oo 12 (.mv (.t 6))]) (
.cond (.t 12) (
.seq (.region false [
oo 4 (.mv (.k (.d (.i .i64 0))))]) (
.ret)) (.skip))) (
.seq (.region false [
oo 4 (.mv (.k (.d (.i .i64 (-1)))))]) (
.ret))) (.skip))) (
.seq (.seq (.region false [
oo 13 (.mv (.t 6))]) (
.cond (.t 13) (
.seq (.region false [
oo 4 (.mv (.k (.d (.i .i64 1))))]) (
.ret)) (.skip))) (
.seq (.seq (.region false [
oo 14 (.mv (.t 0)),
oo 15 (.mv (.t 1)),
oo 16 (.bin .lss (.t 14) (.t 15))]) (
.cond (.t 16) (
.seq (.region false [
oo 4 (.mv (.k (.d (.i .i64 (-1)))))]) (
.ret)) (.skip))) (
.seq (.seq (.region false [
oo 17 (.mv (.t 0)),
oo 18 (.mv (.t 1)),
oo 19 (.bin .gtr (.t 17) (.t 18))]) (
.cond (.t 19) (
.seq (.region false [
oo 4 (.mv (.k (.d (.i .i64 1))))]) (
.ret)) (.skip))) (
.seq (.region false [
oo 4 (.mv (.k (.d (.i .i64 0))))]) (
.ret)))))))), [.slot 4]⟩
def n129 : Notes := { anns := [], frz := [], rgs := [] }
def c130 : CFn := ⟨.seq (.region false [
oo 6 (.mv (.k (.d (.i .i64 0))))]) (
.seq (.seq (.region false [
oo 11 (.mv (.t 0)),
oo 12 (.len 0 (.t 11)),
oo 13 (.mv (.k (.d (.i .i64 0))))]) (
.block 0 (.loop ⟨[0, 1, 2, 11, 12, 13], [], [], [], [], true⟩ (.seq (.region false [
oo 14 (.bin .lss (.t 13) (.t 12))]) (
.seq (.cond (.t 14) (
.skip) (.exit 0)) (
.seq (.block 1 (.seq (.region false [
oo 15 (.mv (.t 13)),
oo 16 (.ia 4 (.t 11) (.t 13)),
oo 17 (.ld true 4 (.t 16)),
oo 8 (.zero (.agg [(.d (.i .i64 0)), (.d (.i .i64 0)), (.d (.s [])), (.nil 4)])),
oo 7 (.mv (.t 15)),
⟨none, .st 4 (.t 8) (.t 17), none, 0⟩]) (
.seq (.seq (.region false [
oo 18 (.mv (.t 7)),
oo 19 (.mv (.t 1)),
oo 20 (.len 0 (.t 19)),
oo 21 (.bin .geq (.t 18) (.t 20))]) (
.cond (.t 21) (
.seq (.region false [
oo 6 (.mv (.k (.d (.i .i64 1))))]) (
.ret)) (.skip))) (
.seq (.region false [
oo 22 (.mv (.t 1)),
oo 23 (.mv (.t 7)),
oo 24 (.ia 4 (.t 22) (.t 23)),
oo 25 (.ld true 4 (.t 24)),
oo 9 (.zero (.agg [(.d (.i .i64 0)), (.d (.i .i64 0)), (.d (.s [])), (.nil 4)])),
⟨none, .st 4 (.t 9) (.t 25), none, 0⟩]) (
.seq (.region false [
oo 26 (.mv (.t 2)),
oo 27 (.ld true 4 (.t 8)),
oo 28 (.ld true 4 (.t 9)),
oo 29 (.callv (.t 26) [.t 27, .t 28] 4 true),
oo 10 (.mv (.t 29))]) (
.seq (.region false [
oo 30 (.mv (.t 10)),
oo 31 (.bin .neq (.t 30) (.k (.d (.i .i64 0))))]) (
.cond (.t 31) (
.seq (.region false [
oo 32 (.mv (.t 10)),
oo 6 (.mv (.t 32))]) (
.ret)) (.skip)))))))) (
.region false [
oo 33 (.bin .add (.t 13) (.k (.d (.i .i64 1)))),
oo 13 (.mv (.t 33))]))))))) (
.seq (.seq (.region false [
oo 34 (.mv (.t 0)),
oo 35 (.len 0 (.t 34)),
oo 36 (.mv (.t 1)),
oo 37 (.len 0 (.t 36)),
oo 38 (.bin .lss (.t 35) (.t 37))]) (
.cond (.t 38) (
.seq (.region false [
oo 6 (.mv (.k (.d (.i .i64 (-1)))))]) (
.ret)) (.skip))) (
.seq (.region false [
oo 6 (.mv (.k (.d (.i .i64 0))))]) (
.ret)))), [.slot 6]⟩
def n130 : Notes := { anns := [⟨[0, 1, 2, 11, 12, 13], [], [], [], [], true⟩], frz := [], rgs := [] }
def c131 : CFn := ⟨.seq (.region false [
oo 2 (.mv (.k (.d (.i .i64 0))))]) (
.seq (.seq (.region false [
oo 3 (.mv (.t 0))]) (
.cond (.t 3) (
.seq (.region false [
oo 2 (.mv (.k (.d (.i .i64 (-1)))))]) (
.ret)) (.skip))) (
.seq (.region false [
oo 2 (.mv (.k (.d (.i .i64 1))))]) (
.ret))), [.slot 2]⟩
def n131 : Notes := { anns := [], frz := [], rgs := [] }
def c132 : CFn := ⟨.seq (.region false [
oo 1 (.box (.t 0)),
oo 2 (.zero (.agg [(.d (.i .i64 0)), (.d (.i .i64 0)), (.d (.s [])), (.nil 4)]))]) (
.seq (.region false [
oo 6 (.fa 3 (.t 1)),
oo 7 (.ld false 1 (.t 6)),
oo 8 (.call 146 [.t 7] 4 false),
oo 3 (.mv (.t 8))]) (
.seq (.seq (.region false [
oo 9 (.mv (.t 3)),
oo 10 (.len 0 (.t 9)),
oo 11 (.mv (.k (.d (.i .i64 0))))]) (
.block 0 (.loop ⟨[1, 2, 3, 9, 10, 11], [], [], [], [], true⟩ (.seq (.region false [
oo 12 (.bin .lss (.t 11) (.t 10))]) (
.seq (.cond (.t 12) (
.skip) (.exit 0)) (
.seq (.block 1 (.seq (.region false [
oo 13 (.mv (.t 11)),
oo 14 (.ia 4 (.t 9) (.t 11)),
oo 15 (.ld true 4 (.t 14)),
oo 5 (.zero (.agg [(.d (.i .i64 0)), (.d (.i .i64 0)), (.d (.s [])), (.nil 4)])),
oo 4 (.mv (.t 13)),
⟨none, .st 4 (.t 5) (.t 15), none, 0⟩]) (
.region false [
oo 16 (.mv (.t 3)),
oo 17 (.mv (.t 4)),
oo 18 (.ld true 4 (.t 5)),
oo 19 (.call 132 [.t 18] 0 true),
oo 20 (.ia 4 (.t 16) (.t 17)),
⟨none, .st 4 (.t 20) (.t 19), none, 0⟩]))) (
.region false [
oo 21 (.bin .add (.t 11) (.k (.d (.i .i64 1)))),
oo 11 (.mv (.t 21))]))))))) (
.seq (.region false [
oo 22 (.mv (.t 3)),
oo 23 (.fa 3 (.t 1)),
⟨none, .st 1 (.t 23) (.t 22), none, 0⟩]) (
.seq (.region false [
oo 24 (.ld true 4 (.t 1)),
⟨none, .st 4 (.t 2) (.t 24), none, 0⟩]) (
.ret))))), [.cell 2 true 4]⟩
def n132 : Notes := { anns := [⟨[1, 2, 3, 9, 10, 11], [], [], [], [], true⟩], frz := [0, 0, 0, 0, 1], rgs := [] }
def c133 : CFn := ⟨.seq (.region false [
oo 4 (.box (.t 1)),
oo 6 (.mv (.k (.d (.i .i64 0)))),
oo 7 (.mv (.k (.d (.b false))))]) (
.seq (.region false [
oo 8 (.mv (.t 0)),
oo 9 (.ld true 4 (.t 4)),
oo 10 (.mv (.t 2)),
oo 11 (.call 147 [.t 8, .t 9, .t 10] 4 true),
oo 12 (.ext (.t 11) 0),
oo 13 (.ext (.t 11) 1),
oo 6 (.mv (.t 12)),
oo 7 (.mv (.t 13))]) (
.ret)), [.slot 6, .slot 7]⟩
def n133 : Notes := { anns := [], frz := [], rgs := [] }
def c135 : CFn := ⟨.seq (.region false [
oo 6 (.mv (.k (.d (.i .i64 0)))),
oo 7 (.mv (.k (.d (.b false))))]) (
.seq (.region false [
oo 8 (.mv (.t 0)),
oo 9 (.mv (.t 1)),
oo 10 (.mv (.t 2)),
oo 11 (.call 150 [.t 8, .t 9, .t 10] 4 true),
oo 12 (.ext (.t 11) 0),
oo 13 (.ext (.t 11) 1),
oo 6 (.mv (.t 12)),
oo 7 (.mv (.t 13))]) (
.ret)), [.slot 6, .slot 7]⟩
def n135 : Notes := { anns := [], frz := [], rgs := [] }
def c136 : CFn := ⟨.seq (.region false [
oo 2 (.box (.t 0)),
oo 4 (.mv (.k (.d (.i .i64 0))))]) (
.seq (.region false [
oo 5 (.ld true 4 (.t 2)),
oo 6 (.call 137 [.t 5] 0 true),
oo 7 (.mv (.t 1)),
oo 8 (.call 129 [.t 6, .t 7] 0 true),
oo 4 (.mv (.t 8))]) (
.ret)), [.slot 4]⟩
def n136 : Notes := { anns := [], frz := [], rgs := [] }
def c137 : CFn := ⟨.seq (.region false [
oo 1 (.box (.t 0)),
oo 2 (.mv (.k (.d (.s []))))]) (
.seq (.seq (.region false [
oo 3 (.fa 3 (.t 1)),
oo 4 (.ld false 1 (.t 3)),
oo 5 (.len 0 (.t 4)),
oo 6 (.bin .eql (.t 5) (.k (.d (.i .i64 0))))]) (
.cond (.t 6) (
.seq (.region false [
oo 2 (.mv (.k (.d (.s []))))]) (
.ret)) (.skip))) (
.seq (.region false [
oo 7 (.fa 3 (.t 1)),
oo 8 (.ld false 1 (.t 7)),
oo 9 (.ia 4 (.t 8) (.k (.d (.i .i64 0)))),
oo 10 (.fa 2 (.t 9)),
oo 11 (.ld false 1 (.t 10)),
oo 2 (.mv (.t 11))]) (
.ret))), [.slot 2]⟩
def n137 : Notes := { anns := [], frz := [], rgs := [] }
def c138 : CFn := ⟨.seq (.region false [
oo 1 (.box (.t 0)),
oo 2 (.mv (.k (.d (.s []))))]) (
.seq (.seq (.region false [
oo 3 (.fa 3 (.t 1)),
oo 4 (.ld false 1 (.t 3)),
oo 5 (.len 0 (.t 4)),
oo 6 (.bin .eql (.t 5) (.k (.d (.i .i64 0))))]) (
.cond (.t 6) (
.seq (.region false [
oo 2 (.mv (.k (.d (.s []))))]) (
.ret)) (.skip))) (
.seq (.region false [
oo 7 (.fa 3 (.t 1)),
oo 8 (.ld false 1 (.t 7)),
oo 9 (.ia 4 (.t 8) (.k (.d (.i .i64 0)))),
oo 10 (.fa 2 (.t 9)),
oo 11 (.ld false 1 (.t 10)),
oo 2 (.mv (.t 11))]) (
.ret))), [.slot 2]⟩
def n138 : Notes := { anns := [], frz := [], rgs := [] }
def c139 : CFn := ⟨.seq (.region false [
oo 1 (.box (.t 0)),
oo 2 (.mv (.k (.d (.b false))))]) (
.seq (.seq (.region false [
oo 3 (.fa 0 (.t 1)),
oo 4 (.ld false 1 (.t 3))]) (
.block 0 (.seq (.region false [
oo 6 (.bin .eql (.t 4) (.k (.d (.i .i64 1)))),
oo 5 (.mv (.t 6))]) (
.cond (.t 5) (
.seq (.region false [
oo 2 (.mv (.k (.d (.b true))))]) (
.ret)) (.seq (.region false [
oo 8 (.bin .eql (.t 4) (.k (.d (.i .i64 2)))),
oo 7 (.mv (.t 8))]) (
.cond (.t 7) (
.seq (.region false [
oo 9 (.fa 1 (.t 1)),
oo 10 (.ld false 1 (.t 9)),
oo 11 (.bin .eql (.t 10) (.k (.d (.i .i64 0)))),
oo 12 (.mv (.t 11)),
⟨some 13, .fa 1 (.t 1), (some (12, false)), 0⟩,
⟨some 14, .ld false 1 (.t 13), (some (12, false)), 0⟩,
⟨some 15, .bin .eql (.t 14) (.k (.d (.i .i64 1))), (some (12, false)), 0⟩,
oo 16 (.pick (.t 12) (.k (.d (.b true))) (.t 15)),
oo 2 (.mv (.t 16))]) (
.ret)) (.seq (.region false [
oo 18 (.bin .eql (.t 4) (.k (.d (.i .i64 7)))),
oo 17 (.mv (.t 18))]) (
.cond (.t 17) (
.seq (.region false [
oo 19 (.fa 1 (.t 1)),
oo 20 (.ld false 1 (.t 19)),
oo 21 (.bin .geq (.t 20) (.k (.d (.i .i64 1)))),
oo 22 (.mv (.t 21)),
⟨some 23, .fa 1 (.t 1), (some (22, true)), 0⟩,
⟨some 24, .ld false 1 (.t 23), (some (22, true)), 0⟩,
⟨some 25, .bin .leq (.t 24) (.k (.d (.i .i64 13))), (some (22, true)), 0⟩,
oo 26 (.pick (.t 22) (.t 25) (.k (.d (.b false)))),
oo 2 (.mv (.t 26))]) (
.ret)) (.skip))))))))) (
.seq (.region false [
oo 27 (.fa 1 (.t 1)),
oo 28 (.ld false 1 (.t 27)),
oo 29 (.bin .eql (.t 28) (.k (.d (.i .i64 0)))),
oo 2 (.mv (.t 29))]) (
.ret))), [.slot 2]⟩
def n139 : Notes := { anns := [], frz := [], rgs := [] }
def c140 : CFn := ⟨.seq (.region false [
oo 1 (.box (.t 0)),
oo 2 (.mv (.k (.d (.b false))))]) (
.seq (.seq (.region false [
oo 3 (.fa 0 (.t 1)),
oo 4 (.ld false 1 (.t 3))]) (
.block 0 (.seq (.region false [
oo 6 (.bin .eql (.t 4) (.k (.d (.i .i64 4)))),
oo 5 (.mv (.t 6))]) (
.cond (.t 5) (
.seq (.region false [
oo 2 (.mv (.k (.d (.b true))))]) (
.ret)) (.seq (.region false [
oo 8 (.bin .eql (.t 4) (.k (.d (.i .i64 5)))),
oo 7 (.mv (.t 8))]) (
.cond (.t 7) (
.seq (.region false [
oo 9 (.fa 3 (.t 1)),
oo 10 (.ld false 1 (.t 9)),
oo 11 (.call 151 [.t 10, (.k (.d (.f 114 [] [])))] 4 true),
oo 2 (.mv (.t 11))]) (
.ret)) (.seq (.region false [
oo 13 (.bin .eql (.t 4) (.k (.d (.i .i64 6)))),
oo 12 (.mv (.t 13))]) (
.cond (.t 12) (
.seq (.region false [
oo 14 (.fa 3 (.t 1)),
oo 15 (.ld false 1 (.t 14)),
oo 16 (.call 141 [.t 15, (.k (.d (.f 152 [] [])))] 4 true),
oo 17 (.un .not (.t 16)),
oo 18 (.mv (.t 17)),
⟨some 19, .fa 3 (.t 1), (some (18, true)), 0⟩,
⟨some 20, .ld false 1 (.t 19), (some (18, true)), 0⟩,
⟨some 21, .call 151 [.t 20, (.k (.d (.f 154 [] [])))] 4 true, (some (18, true)), 0⟩,
oo 22 (.pick (.t 18) (.t 21) (.k (.d (.b false)))),
oo 2 (.mv (.t 22))]) (
.ret)) (.skip))))))))) (
.seq (.region false [
oo 23 (.fa 3 (.t 1)),
oo 24 (.ld false 1 (.t 23)),
oo 25 (.len 0 (.t 24)),
oo 26 (.bin .eql (.t 25) (.k (.d (.i .i64 0)))),
oo 2 (.mv (.t 26))]) (
.ret))), [.slot 2]⟩
def n140 : Notes := { anns := [], frz := [], rgs := [] }
def c141 : CFn := ⟨.seq (.region false [
oo 4 (.mv (.k (.d (.b false))))]) (
.seq (.region false [
oo 5 (.mv (.t 0)),
oo 6 (.mv (.t 1)),
oo 7 (.call 155 [.t 5, .t 6] 4 true),
oo 8 (.bin .geq (.t 7) (.k (.d (.i .i64 0)))),
oo 4 (.mv (.t 8))]) (
.ret)), [.slot 4]⟩
def n141 : Notes := { anns := [], frz := [], rgs := [] }
def c142 : CFn := ⟨.seq (.region false [
oo 1 (.box (.t 0)),
oo 2 (.mv (.k (.d (.b false))))]) (
.seq (.region false [
oo 3 (.fa 0 (.t 1)),
oo 4 (.ld false 1 (.t 3)),
oo 5 (.bin .eql (.t 4) (.k (.d (.i .i64 7)))),
oo 6 (.mv (.t 5)),
⟨some 7, .ld true 4 (.t 1), (some (6, false)), 0⟩,
⟨some 8, .call 125 [.t 7] 0 true, (some (6, false)), 0⟩,
⟨some 9, .un .not (.t 8), (some (6, false)), 0⟩,
oo 10 (.pick (.t 6) (.k (.d (.b true))) (.t 9)),
oo 2 (.mv (.t 10))]) (
.ret)), [.slot 2]⟩
def n142 : Notes := { anns := [], frz := [], rgs := [] }
def c143 : CFn := ⟨.seq (.region false [
oo 2 (.mv (.k (.d (.b false))))]) (
.seq (.region false [
oo 3 (.mv (.t 0)),
oo 4 (.mv (.t 0)),
oo 5 (.bin .neq (.t 3) (.t 4)),
oo 2 (.mv (.t 5))]) (
.ret)), [.slot 2]⟩
def n143 : Notes := { anns := [], frz := [], rgs := [] }
def c144 : CFn := ⟨.seq (.region false [
oo 2 (.mv (.k (.d (.b false))))]) (
.seq (.region false [
oo 3 (.mv (.t 0)),
oo 4 (.mv (.t 0)),
oo 5 (.bin .neq (.t 3) (.t 4)),
oo 2 (.mv (.t 5))]) (
.ret)), [.slot 2]⟩
def n144 : Notes := { anns := [], frz := [], rgs := [] }
def c145 : CFn := ⟨.seq (.region false [
oo 2 (.mv (.k (.d (.b false))))]) (
.seq (.region false [
oo 3 (.mv (.t 0)),
oo 4 (.mv (.t 0)),
oo 5 (.bin .neq (.t 3) (.t 4)),
oo 2 (.mv (.t 5))]) (
.ret)), [.slot 2]⟩
def n145 : Notes := { anns := [], frz := [], rgs := [] }
def c147 : CFn := ⟨.seq (.region false [
oo 4 (.box (.t 1)),
oo 6 (.mv (.k (.d (.i .i64 0)))),
oo 7 (.mv (.k (.d (.b false))))]) (
.seq (.region false [
oo 12 (.mv (.t 0)),
oo 13 (.len 0 (.t 12)),
oo 8 (.mv (.t 13))]) (
.seq (.region false [
oo 14 (.mv (.t 8)),
oo 9 (.mv (.k (.d (.i .i64 0)))),
oo 10 (.mv (.t 14))]) (
.seq (.block 0 (.loop ⟨[0, 2, 4, 8, 9, 10], [], [], [], [], true⟩ (.seq (.seq (.region false [
oo 15 (.mv (.t 9)),
oo 16 (.mv (.t 10)),
oo 17 (.bin .lss (.t 15) (.t 16))]) (
.cond (.t 17) (
.skip) (.exit 0))) (
.block 1 (.seq (.region false [
oo 18 (.mv (.t 9)),
oo 19 (.mv (.t 10)),
oo 20 (.bin .add (.t 18) (.t 19)),
oo 21 (.conv .u64 (.t 20)),
oo 22 (.bin .shr (.t 21) (.k (.d (.i .u64 1)))),
oo 23 (.conv .i64 (.t 22)),
oo 11 (.mv (.t 23))]) (
.seq (.region true [
oo 24 (.mv (.t 2)),
oo 25 (.mv (.t 0)),
oo 26 (.mv (.t 11)),
⟨some 27, .ia 4 (.t 25) (.t 26), none, 6⟩,
⟨some 28, .ld true 4 (.t 27), none, 14⟩,
oo 29 (.ld true 4 (.t 4)),
⟨some 30, .callv (.t 24) [.t 28, .t 29] 4 true, none, 63⟩,
⟨some 31, .bin .lss (.t 30) (.k (.d (.i .i64 0))), none, 127⟩]) (
.cond (.t 31) (
.region false [
oo 32 (.mv (.t 11)),
oo 33 (.bin .add (.t 32) (.k (.d (.i .i64 1)))),
oo 9 (.mv (.t 33))]) (.region false [
oo 34 (.mv (.t 11)),
oo 10 (.mv (.t 34))])))))))) (
.seq (.region true [
oo 35 (.mv (.t 9)),
oo 36 (.mv (.t 9)),
oo 37 (.mv (.t 8)),
⟨some 38, .bin .lss (.t 36) (.t 37), none, 6⟩,
⟨some 39, .mv (.t 38), none, 14⟩,
⟨some 40, .mv (.t 2), (some (39, true)), 30⟩,
⟨some 41, .mv (.t 0), (some (39, true)), 30⟩,
⟨some 42, .mv (.t 9), (some (39, true)), 30⟩,
⟨some 43, .ia 4 (.t 41) (.t 42), (some (39, true)), 222⟩,
⟨some 44, .ld true 4 (.t 43), (some (39, true)), 478⟩,
⟨some 45, .ld true 4 (.t 4), (some (39, true)), 30⟩,
⟨some 46, .callv (.t 40) [.t 44, .t 45] 4 true, (some (39, true)), 2046⟩,
⟨some 47, .bin .eql (.t 46) (.k (.d (.i .i64 0))), (some (39, true)), 4094⟩,
⟨some 48, .pick (.t 39) (.t 47) (.k (.d (.b false))), none, 8190⟩,
⟨some 6, .mv (.t 35), none, 4095⟩,
⟨some 7, .mv (.t 48), none, 32767⟩]) (
.ret))))), [.slot 6, .slot 7]⟩
def n147 : Notes := { anns := [⟨[0, 2, 4, 8, 9, 10], [], [], [], [], true⟩], frz := [], rgs := [] }
def c150 : CFn := ⟨.seq (.region false [
oo 6 (.mv (.k (.d (.i .i64 0)))),
oo 7 (.mv (.k (.d (.b false))))]) (
.seq (.region false [
oo 12 (.mv (.t 0)),
oo 13 (.len 0 (.t 12)),
oo 8 (.mv (.t 13))]) (
.seq (.region false [
oo 14 (.mv (.t 8)),
oo 9 (.mv (.k (.d (.i .i64 0)))),
oo 10 (.mv (.t 14))]) (
.seq (.block 0 (.loop ⟨[0, 1, 2, 8, 9, 10], [], [], [], [], true⟩ (.seq (.seq (.region false [
oo 15 (.mv (.t 9)),
oo 16 (.mv (.t 10)),
oo 17 (.bin .lss (.t 15) (.t 16))]) (
.cond (.t 17) (
.skip) (.exit 0))) (
.block 1 (.seq (.region false [
oo 18 (.mv (.t 9)),
oo 19 (.mv (.t 10)),
oo 20 (.bin .add (.t 18) (.t 19)),
oo 21 (.conv .u64 (.t 20)),
oo 22 (.bin .shr (.t 21) (.k (.d (.i .u64 1)))),
oo 23 (.conv .i64 (.t 22)),
oo 11 (.mv (.t 23))]) (
.seq (.region false [
oo 24 (.mv (.t 2)),
oo 25 (.mv (.t 0)),
oo 26 (.mv (.t 11)),
oo 27 (.ia 4 (.t 25) (.t 26)),
oo 28 (.ld true 4 (.t 27)),
oo 29 (.mv (.t 1)),
oo 30 (.callv (.t 24) [.t 28, .t 29] 4 true),
oo 31 (.bin .lss (.t 30) (.k (.d (.i .i64 0))))]) (
.cond (.t 31) (
.region false [
oo 32 (.mv (.t 11)),
oo 33 (.bin .add (.t 32) (.k (.d (.i .i64 1)))),
oo 9 (.mv (.t 33))]) (.region false [
oo 34 (.mv (.t 11)),
oo 10 (.mv (.t 34))])))))))) (
.seq (.region false [
oo 35 (.mv (.t 9)),
oo 36 (.mv (.t 9)),
oo 37 (.mv (.t 8)),
oo 38 (.bin .lss (.t 36) (.t 37)),
oo 39 (.mv (.t 38)),
⟨some 40, .mv (.t 2), (some (39, true)), 0⟩,
⟨some 41, .mv (.t 0), (some (39, true)), 0⟩,
⟨some 42, .mv (.t 9), (some (39, true)), 0⟩,
⟨some 43, .ia 4 (.t 41) (.t 42), (some (39, true)), 0⟩,
⟨some 44, .ld true 4 (.t 43), (some (39, true)), 0⟩,
⟨some 45, .mv (.t 1), (some (39, true)), 0⟩,
⟨some 46, .callv (.t 40) [.t 44, .t 45] 4 true, (some (39, true)), 0⟩,
⟨some 47, .bin .eql (.t 46) (.k (.d (.i .i64 0))), (some (39, true)), 0⟩,
oo 48 (.pick (.t 39) (.t 47) (.k (.d (.b false)))),
oo 6 (.mv (.t 35)),
oo 7 (.mv (.t 48))]) (
.ret))))), [.slot 6, .slot 7]⟩
def n150 : Notes := { anns := [⟨[0, 1, 2, 8, 9, 10], [], [], [], [], true⟩], frz := [], rgs := [] }
def c151 : CFn := ⟨.seq (.region false [
oo 4 (.mv (.k (.d (.b false))))]) (
.seq (.seq (.region false [
oo 6 (.mv (.t 0)),
oo 7 (.len 0 (.t 6)),
oo 8 (.mv (.k (.d (.i .i64 0))))]) (
.block 0 (.loop ⟨[0, 1, 7, 8], [], [], [], [], true⟩ (.seq (.region false [
oo 9 (.bin .lss (.t 8) (.t 7))]) (
.seq (.cond (.t 9) (
.skip) (.exit 0)) (
.seq (.block 1 (.seq (.region false [
oo 10 (.mv (.t 8)),
oo 5 (.mv (.t 10))]) (
.seq (.region true [
oo 11 (.mv (.t 5)),
⟨some 12, .bin .gtr (.t 11) (.k (.d (.i .i64 0))), none, 1⟩,
⟨some 13, .mv (.t 12), none, 3⟩,
⟨some 14, .mv (.t 1), (some (13, true)), 7⟩,
⟨some 15, .mv (.t 0), (some (13, true)), 7⟩,
⟨some 16, .mv (.t 5), (some (13, true)), 7⟩,
⟨some 17, .bin .sub (.t 16) (.k (.d (.i .i64 1))), (some (13, true)), 39⟩,
⟨some 18, .ia 4 (.t 15) (.t 17), (some (13, true)), 119⟩,
⟨some 19, .ld true 4 (.t 18), (some (13, true)), 247⟩,
⟨some 20, .mv (.t 0), (some (13, true)), 7⟩,
⟨some 21, .mv (.t 5), (some (13, true)), 7⟩,
⟨some 22, .ia 4 (.t 20) (.t 21), (some (13, true)), 1543⟩,
⟨some 23, .ld true 4 (.t 22), (some (13, true)), 3591⟩,
⟨some 24, .callv (.t 14) [.t 19, .t 23] 4 true, (some (13, true)), 8191⟩,
⟨some 25, .bin .geq (.t 24) (.k (.d (.i .i64 0))), (some (13, true)), 16383⟩,
⟨some 26, .pick (.t 13) (.t 25) (.k (.d (.b false))), none, 32767⟩]) (
.cond (.t 26) (
.seq (.region false [
oo 4 (.mv (.k (.d (.b false))))]) (
.ret)) (.skip))))) (
.region false [
oo 27 (.bin .add (.t 8) (.k (.d (.i .i64 1)))),
oo 8 (.mv (.t 27))]))))))) (
.seq (.region false [
oo 4 (.mv (.k (.d (.b true))))]) (
.ret))), [.slot 4]⟩
def n151 : Notes := { anns := [⟨[0, 1, 7, 8], [], [], [], [], true⟩], frz := [], rgs := [] }
def c152 : CFn := ⟨.seq (.region false [
oo 1 (.box (.t 0)),
oo 2 (.mv (.k (.d (.b false))))]) (
.seq (.region false [
oo 3 (.ld true 4 (.t 1)),
oo 4 (.call 153 [.t 3] 0 true),
oo 5 (.un .not (.t 4)),
oo 2 (.mv (.t 5))]) (
.ret)), [.slot 2]⟩
def n152 : Notes := { anns := [], frz := [], rgs := [] }
def c153 : CFn := ⟨.seq (.region false [
oo 1 (.box (.t 0)),
oo 2 (.mv (.k (.d (.b false))))]) (
.seq (.region false [
oo 3 (.fa 0 (.t 1)),
oo 4 (.ld false 1 (.t 3)),
oo 5 (.bin .eql (.t 4) (.k (.d (.i .i64 4)))),
oo 6 (.mv (.t 5)),
⟨some 7, .fa 3 (.t 1), (some (6, true)), 0⟩,
⟨some 8, .ld false 1 (.t 7), (some (6, true)), 0⟩,
⟨some 9, .len 0 (.t 8), (some (6, true)), 0⟩,
⟨some 10, .bin .eql (.t 9) (.k (.d (.i .i64 2))), (some (6, true)), 0⟩,
oo 11 (.pick (.t 6) (.t 10) (.k (.d (.b false)))),
oo 12 (.mv (.t 11)),
⟨some 13, .fa 3 (.t 1), (some (12, true)), 0⟩,
⟨some 14, .ld false 1 (.t 13), (some (12, true)), 0⟩,
⟨some 15, .ia 4 (.t 14) (.k (.d (.i .i64 0))), (some (12, true)), 0⟩,
⟨some 16, .fa 0 (.t 15), (some (12, true)), 0⟩,
⟨some 17, .ld false 1 (.t 16), (some (12, true)), 0⟩,
⟨some 18, .bin .eql (.t 17) (.k (.d (.i .i64 3))), (some (12, true)), 0⟩,
oo 19 (.pick (.t 12) (.t 18) (.k (.d (.b false)))),
oo 2 (.mv (.t 19))]) (
.ret)), [.slot 2]⟩
def n153 : Notes := { anns := [], frz := [], rgs := [] }
def c154 : CFn := ⟨.seq (.region false [
oo 2 (.box (.t 0)),
oo 3 (.box (.t 1)),
oo 4 (.mv (.k (.d (.i .i64 0))))]) (
.seq (.region true [
oo 5 (.ld true 4 (.t 2)),
⟨some 6, .call 137 [.t 5] 0 true, none, 1⟩,
oo 7 (.ld true 4 (.t 3)),
⟨some 8, .call 137 [.t 7] 0 true, none, 7⟩,
⟨some 9, .call 129 [.t 6, .t 8] 0 true, none, 15⟩,
⟨some 4, .mv (.t 9), none, 31⟩]) (
.ret)), [.slot 4]⟩
def n154 : Notes := { anns := [], frz := [], rgs := [] }
def c155 : CFn := ⟨.seq (.region false [
oo 4 (.mv (.k (.d (.i .i64 0))))]) (
.seq (.seq (.region false [
oo 6 (.mv (.t 0)),
oo 7 (.len 0 (.t 6)),
oo 8 (.mv (.k (.d (.i .i64 0))))]) (
.block 0 (.loop ⟨[0, 1, 7, 8], [], [], [], [], true⟩ (.seq (.region false [
oo 9 (.bin .lss (.t 8) (.t 7))]) (
.seq (.cond (.t 9) (
.skip) (.exit 0)) (
.seq (.block 1 (.seq (.region false [
oo 10 (.mv (.t 8)),
oo 5 (.mv (.t 10))]) (
.seq (.region false [
oo 11 (.mv (.t 1)),
oo 12 (.mv (.t 0)),
oo 13 (.mv (.t 5)),
oo 14 (.ia 4 (.t 12) (.t 13)),
oo 15 (.ld true 4 (.t 14)),
oo 16 (.callv (.t 11) [.t 15] 4 true)]) (
.cond (.t 16) (
.seq (.region false [
oo 17 (.mv (.t 5)),
oo 4 (.mv (.t 17))]) (
.ret)) (.skip))))) (
.region false [
oo 18 (.bin .add (.t 8) (.k (.d (.i .i64 1)))),
oo 8 (.mv (.t 18))]))))))) (
.seq (.region false [
oo 4 (.mv (.k (.d (.i .i64 (-1)))))]) (
.ret))), [.slot 4]⟩
def n155 : Notes := { anns := [⟨[0, 1, 7, 8], [], [], [], [], true⟩], frz := [], rgs := [] }
def c192 : CFn := ⟨.seq (.region false [
oo 1 (.box (.t 0)),
oo 2 (.mv (.k (.nil 2)))]) (
.seq (.seq (.region false [
oo 5 (.fa 0 (.t 1)),
oo 6 (.ld false 1 (.t 5)),
oo 7 (.bin .eql (.t 6) (.k (.d (.i .i64 1))))]) (
.cond (.t 7) (
.region false [
oo 8 (.mv (.t 2)),
oo 9 (.fa 5 (.t 1)),
oo 10 (.ld false 1 (.t 9)),
oo 11 (.fa 6 (.t 1)),
oo 12 (.ld false 1 (.t 11)),
oo 13 (.build [(.d (.i .i64 0)), (.d (.i .i64 0))] [(0, 1, .t 10), (1, 1, .t 12)]),
oo 14 (.bsl 2 1 [(.i .i64 0), (.i .i64 0)] [(0, .t 13)]),
oo 15 (.app 2 16 (.t 8) (.t 14)),
oo 2 (.mv (.t 15))]) (.skip))) (
.seq (.seq (.region false [
oo 16 (.fa 7 (.t 1)),
oo 17 (.ld false 1 (.t 16)),
oo 18 (.len 0 (.t 17)),
oo 19 (.mv (.k (.d (.i .i64 0))))]) (
.block 0 (.loop ⟨[2, 17, 18, 19], [2], [], [], [], true⟩ (.seq (.region false [
oo 20 (.bin .lss (.t 19) (.t 18))]) (
.seq (.cond (.t 20) (
.skip) (.exit 0)) (
.seq (.block 1 (.seq (.region false [
oo 21 (.ia 8 (.t 17) (.t 19)),
oo 22 (.ld true 8 (.t 21)),
oo 4 (.zero (.agg [(.d (.i .i64 0)), (.d (.i .i64 0)), (.d (.i .i64 0)), (.d (.s [])), (.nil 4), (.d (.i .i64 0)), (.d (.i .i64 0)), (.nil 8)])),
⟨none, .st 8 (.t 4) (.t 22), none, 0⟩]) (
.region false [
oo 23 (.mv (.t 2)),
oo 24 (.ld true 8 (.t 4)),
oo 25 (.call 192 [.t 24] 0 true),
oo 26 (.app 2 16 (.t 23) (.t 25)),
oo 2 (.mv (.t 26))]))) (
.region false [
oo 27 (.bin .add (.t 19) (.k (.d (.i .i64 1)))),
oo 19 (.mv (.t 27))]))))))) (
.seq (.region false [
oo 28 (.mv (.t 2)),
oo 2 (.mv (.t 28))]) (
.ret)))), [.slot 2]⟩
def n192 : Notes := { anns := [⟨[2, 17, 18, 19], [2], [], [], [], true⟩], frz := [], rgs := [] }
def c210 : CFn := ⟨.seq (.region false [
oo 1 (.box (.t 0)),
oo 2 (.mv (.k (.d (.b false))))]) (
.seq (.region false [
oo 3 (.ld true 8 (.t 1)),
oo 4 (.call 228 [.t 3, (.k (.d (.i .i64 12)))] 0 true),
oo 2 (.mv (.t 4))]) (
.ret)), [.slot 2]⟩
def n210 : Notes := { anns := [], frz := [], rgs := [] }
def c228 : CFn := ⟨.seq (.region false [
oo 2 (.box (.t 0)),
oo 3 (.box (.t 1)),
oo 4 (.mv (.k (.d (.b false))))]) (
.seq (.region false [
oo 6 (.fa 0 (.t 2)),
oo 7 (.ld false 1 (.t 6)),
oo 8 (.call 236 [.t 7] 0 true),
oo 5 (.mv (.t 8))]) (
.seq (.seq (.region false [
oo 9 (.ld false 1 (.t 3)),
oo 10 (.bin .lss (.t 9) (.k (.d (.i .i64 1)))),
oo 11 (.mv (.t 10)),
⟨some 12, .mv (.t 5), (some (11, false)), 0⟩,
⟨some 13, .bin .eql (.t 12) (.k (.d (.i .i64 (-2)))), (some (11, false)), 0⟩,
oo 14 (.pick (.t 11) (.k (.d (.b true))) (.t 13)),
oo 15 (.mv (.t 14)),
⟨some 16, .mv (.t 5), (some (15, false)), 0⟩,
⟨some 17, .bin .geq (.t 16) (.k (.d (.i .i64 0))), (some (15, false)), 0⟩,
⟨some 18, .mv (.t 17), (some (15, false)), 0⟩,
⟨some 19, .fa 7 (.t 2), (some (18, true)), 0⟩,
⟨some 20, .ld false 1 (.t 19), (some (18, true)), 0⟩,
⟨some 21, .len 0 (.t 20), (some (18, true)), 0⟩,
⟨some 22, .mv (.t 5), (some (18, true)), 0⟩,
⟨some 23, .bin .neq (.t 21) (.t 22), (some (18, true)), 0⟩,
⟨some 24, .pick (.t 18) (.t 23) (.k (.d (.b false))), (some (15, false)), 0⟩,
oo 25 (.pick (.t 15) (.k (.d (.b true))) (.t 24)),
oo 26 (.mv (.t 25)),
⟨some 27, .fa 7 (.t 2), (some (26, false)), 0⟩,
⟨some 28, .ld false 1 (.t 27), (some (26, false)), 0⟩,
⟨some 29, .len 0 (.t 28), (some (26, false)), 0⟩,
⟨some 30, .bin .gtr (.t 29) (.k (.d (.i .i64 4))), (some (26, false)), 0⟩,
oo 31 (.pick (.t 26) (.k (.d (.b true))) (.t 30)),
oo 32 (.mv (.t 31)),
⟨some 33, .ld true 8 (.t 2), (some (32, false)), 0⟩,
⟨some 34, .call 237 [.t 33] 0 true, (some (32, false)), 0⟩,
⟨some 35, .un .not (.t 34), (some (32, false)), 0⟩,
oo 36 (.pick (.t 32) (.k (.d (.b true))) (.t 35))]) (
.cond (.t 36) (
.seq (.region false [
oo 4 (.mv (.k (.d (.b false))))]) (
.ret)) (.skip))) (
.seq (.region false [
oo 37 (.fa 7 (.t 2)),
oo 38 (.ld false 1 (.t 37)),
oo 39 (.mkf 238 [] [.t 3] true),
oo 40 (.call 229 [.t 38, .t 39] 4 true),
oo 41 (.un .not (.t 40)),
oo 4 (.mv (.t 41))]) (
.ret)))), [.slot 4]⟩
def n228 : Notes := { anns := [], frz := [0, 0, 0, 0, 0, 0, 0, 0, 0, 0, 0, 0, 0, 0, 0, 0, 0, 0, 0, 0, 0, 0, 0, 0, 0, 0, 0, 0, 0, 0, 0, 0, 0, 0, 0, 0, 0, 0, 1], rgs := [] }
def c229 : CFn := ⟨.seq (.region false [
oo 4 (.mv (.k (.d (.b false))))]) (
.seq (.region false [
oo 5 (.mv (.t 0)),
oo 6 (.mv (.t 1)),
oo 7 (.call 239 [.t 5, .t 6] 4 true),
oo 8 (.bin .geq (.t 7) (.k (.d (.i .i64 0)))),
oo 4 (.mv (.t 8))]) (
.ret)), [.slot 4]⟩
def n229 : Notes := { anns := [], frz := [], rgs := [] }
def c236 : CFn := ⟨.seq (.region false [
oo 2 (.mv (.k (.d (.i .i64 0))))]) (
.seq (.seq (.region false [
oo 3 (.mv (.t 0))]) (
.block 0 (.seq (.seq (.region false [
oo 5 (.bin .eql (.t 3) (.k (.d (.i .i64 0)))),
oo 4 (.mv (.t 5))]) (
.cond (.t 4) (
.skip) (.seq (.region false [
oo 6 (.bin .eql (.t 3) (.k (.d (.i .i64 1)))),
oo 4 (.mv (.t 6))]) (
.cond (.t 4) (
.skip) (.seq (.region false [
oo 7 (.bin .eql (.t 3) (.k (.d (.i .i64 2)))),
oo 4 (.mv (.t 7))]) (
.cond (.t 4) (
.skip) (.seq (.region false [
oo 8 (.bin .eql (.t 3) (.k (.d (.i .i64 3)))),
oo 4 (.mv (.t 8))]) (
.cond (.t 4) (
.skip) (.seq (.region false [
oo 9 (.bin .eql (.t 3) (.k (.d (.i .i64 21)))),
oo 4 (.mv (.t 9))]) (
.cond (.t 4) (
.skip) (.region false [
oo 10 (.bin .eql (.t 3) (.k (.d (.i .i64 22)))),
oo 4 (.mv (.t 10))]))))))))))) (
.cond (.t 4) (
.seq (.region false [
oo 2 (.mv (.k (.d (.i .i64 0))))]) (
.ret)) (.seq (.seq (.region false [
oo 12 (.bin .eql (.t 3) (.k (.d (.i .i64 11)))),
oo 11 (.mv (.t 12))]) (
.cond (.t 11) (
.skip) (.region false [
oo 13 (.bin .eql (.t 3) (.k (.d (.i .i64 15)))),
oo 11 (.mv (.t 13))]))) (
.cond (.t 11) (
.seq (.region false [
oo 2 (.mv (.k (.d (.i .i64 1))))]) (
.ret)) (.seq (.seq (.region false [
oo 15 (.bin .eql (.t 3) (.k (.d (.i .i64 12)))),
oo 14 (.mv (.t 15))]) (
.cond (.t 14) (
.skip) (.region false [
oo 16 (.bin .eql (.t 3) (.k (.d (.i .i64 16)))),
oo 14 (.mv (.t 16))]))) (
.cond (.t 14) (
.seq (.region false [
oo 2 (.mv (.k (.d (.i .i64 3))))]) (
.ret)) (.seq (.region false [
oo 18 (.bin .eql (.t 3) (.k (.d (.i .i64 14)))),
oo 17 (.mv (.t 18))]) (
.cond (.t 17) (
.seq (.region false [
oo 2 (.mv (.k (.d (.i .i64 (-1)))))]) (
.ret)) (.skip))))))))))) (
.seq (.seq (.region false [
oo 19 (.mv (.t 0)),
oo 20 (.bin .gtr (.t 19) (.k (.d (.i .i64 3)))),
oo 21 (.mv (.t 20)),
⟨some 22, .mv (.t 0), (some (21, true)), 0⟩,
⟨some 23, .bin .lss (.t 22) (.k (.d (.i .i64 21))), (some (21, true)), 0⟩,
oo 24 (.pick (.t 21) (.t 23) (.k (.d (.b false))))]) (
.cond (.t 24) (
.seq (.region false [
oo 2 (.mv (.k (.d (.i .i64 2))))]) (
.ret)) (.skip))) (
.seq (.region false [
oo 2 (.mv (.k (.d (.i .i64 (-2)))))]) (
.ret)))), [.slot 2]⟩
def n236 : Notes := { anns := [], frz := [], rgs := [] }
def c237 : CFn := ⟨.seq (.region false [
oo 1 (.box (.t 0)),
oo 2 (.mv (.k (.d (.b false))))]) (
.seq (.seq (.region false [
oo 5 (.fa 0 (.t 1)),
oo 6 (.ld false 1 (.t 5)),
oo 7 (.bin .eql (.t 6) (.k (.d (.i .i64 0))))]) (
.cond (.t 7) (
.seq (.region false [
oo 8 (.fa 1 (.t 1)),
oo 9 (.fa 0 (.t 8)),
oo 10 (.ld false 1 (.t 9)),
oo 11 (.bin .neq (.t 10) (.k (.d (.i .i64 7)))),
oo 12 (.mv (.t 11)),
⟨some 13, .fa 1 (.t 1), (some (12, true)), 0⟩,
⟨some 14, .ld true 4 (.t 13), (some (12, true)), 0⟩,
⟨some 15, .call 111 [.t 14] 0 true, (some (12, true)), 0⟩,
oo 16 (.pick (.t 12) (.t 15) (.k (.d (.b false)))),
oo 17 (.mv (.t 16)),
⟨some 18, .fa 5 (.t 1), (some (17, true)), 0⟩,
⟨some 19, .ld false 1 (.t 18), (some (17, true)), 0⟩,
⟨some 20, .bin .eql (.t 19) (.k (.d (.i .i64 0))), (some (17, true)), 0⟩,
oo 21 (.pick (.t 17) (.t 20) (.k (.d (.b false)))),
oo 22 (.mv (.t 21)),
⟨some 23, .fa 6 (.t 1), (some (22, true)), 0⟩,
⟨some 24, .ld false 1 (.t 23), (some (22, true)), 0⟩,
⟨some 25, .bin .eql (.t 24) (.k (.d (.i .i64 0))), (some (22, true)), 0⟩,
oo 26 (.pick (.t 22) (.t 25) (.k (.d (.b false)))),
oo 2 (.mv (.t 26))]) (
.ret)) (.skip))) (
.seq (.region false [
oo 3 (.mv (.k (.d (.i .i64 0)))),
oo 4 (.mv (.k (.d (.i .i64 0))))]) (
.seq (.seq (.region false [
oo 27 (.fa 0 (.t 1)),
oo 28 (.ld false 1 (.t 27))]) (
.block 0 (.seq (.region false [
oo 30 (.bin .eql (.t 28) (.k (.d (.i .i64 1)))),
oo 29 (.mv (.t 30))]) (
.cond (.t 29) (
.region false [
oo 3 (.mv (.k (.d (.i .i64 5)))),
oo 4 (.mv (.k (.d (.i .i64 7))))]) (.seq (.seq (.region false [
oo 32 (.bin .eql (.t 28) (.k (.d (.i .i64 2)))),
oo 31 (.mv (.t 32))]) (
.cond (.t 31) (
.skip) (.region false [
oo 33 (.bin .eql (.t 28) (.k (.d (.i .i64 3)))),
oo 31 (.mv (.t 33))]))) (
.cond (.t 31) (
.region false [
oo 3 (.mv (.k (.d (.i .i64 5))))]) (.skip))))))) (
.seq (.region false [
oo 34 (.fa 1 (.t 1)),
oo 35 (.ld true 4 (.t 34)),
oo 36 (.call 241 [.t 35] 0 true),
oo 37 (.mv (.t 36)),
⟨some 38, .fa 5 (.t 1), (some (37, true)), 0⟩,
⟨some 39, .ld false 1 (.t 38), (some (37, true)), 0⟩,
⟨some 40, .bin .geq (.t 39) (.k (.d (.i .i64 0))), (some (37, true)), 0⟩,
oo 41 (.pick (.t 37) (.t 40) (.k (.d (.b false)))),
oo 42 (.mv (.t 41)),
⟨some 43, .fa 5 (.t 1), (some (42, true)), 0⟩,
⟨some 44, .ld false 1 (.t 43), (some (42, true)), 0⟩,
⟨some 45, .mv (.t 3), (some (42, true)), 0⟩,
⟨some 46, .bin .leq (.t 44) (.t 45), (some (42, true)), 0⟩,
oo 47 (.pick (.t 42) (.t 46) (.k (.d (.b false)))),
oo 48 (.mv (.t 47)),
⟨some 49, .fa 6 (.t 1), (some (48, true)), 0⟩,
⟨some 50, .ld false 1 (.t 49), (some (48, true)), 0⟩,
⟨some 51, .bin .geq (.t 50) (.k (.d (.i .i64 0))), (some (48, true)), 0⟩,
oo 52 (.pick (.t 48) (.t 51) (.k (.d (.b false)))),
oo 53 (.mv (.t 52)),
⟨some 54, .fa 6 (.t 1), (some (53, true)), 0⟩,
⟨some 55, .ld false 1 (.t 54), (some (53, true)), 0⟩,
⟨some 56, .mv (.t 4), (some (53, true)), 0⟩,
⟨some 57, .bin .leq (.t 55) (.t 56), (some (53, true)), 0⟩,
oo 58 (.pick (.t 53) (.t 57) (.k (.d (.b false)))),
oo 2 (.mv (.t 58))]) (
.ret))))), [.slot 2]⟩
def n237 : Notes := { anns := [], frz := [], rgs := [] }
def c238 : CFn := ⟨.seq (.region false [
oo 2 (.box (.t 0)),
oo 3 (.mv (.k (.d (.b false))))]) (
.seq (.region false [
oo 4 (.ld true 8 (.t 2)),
oo 5 (.ld false 1 (.t 1)),
oo 6 (.bin .sub (.t 5) (.k (.d (.i .i64 1)))),
oo 7 (.call 228 [.t 4, .t 6] 0 true),
oo 8 (.un .not (.t 7)),
oo 3 (.mv (.t 8))]) (
.ret)), [.slot 3]⟩
def n238 : Notes := { anns := [], frz := [], rgs := [] }
def c239 : CFn := ⟨.seq (.region false [
oo 4 (.mv (.k (.d (.i .i64 0))))]) (
.seq (.seq (.region false [
oo 6 (.mv (.t 0)),
oo 7 (.len 0 (.t 6)),
oo 8 (.mv (.k (.d (.i .i64 0))))]) (
.block 0 (.loop ⟨[0, 1, 7, 8], [], [], [], [], true⟩ (.seq (.region false [
oo 9 (.bin .lss (.t 8) (.t 7))]) (
.seq (.cond (.t 9) (
.skip) (.exit 0)) (
.seq (.block 1 (.seq (.region false [
oo 10 (.mv (.t 8)),
oo 5 (.mv (.t 10))]) (
.seq (.region false [
oo 11 (.mv (.t 1)),
oo 12 (.mv (.t 0)),
oo 13 (.mv (.t 5)),
oo 14 (.ia 8 (.t 12) (.t 13)),
oo 15 (.ld true 8 (.t 14)),
oo 16 (.callv (.t 11) [.t 15] 4 true)]) (
.cond (.t 16) (
.seq (.region false [
oo 17 (.mv (.t 5)),
oo 4 (.mv (.t 17))]) (
.ret)) (.skip))))) (
.region false [
oo 18 (.bin .add (.t 8) (.k (.d (.i .i64 1)))),
oo 8 (.mv (.t 18))]))))))) (
.seq (.region false [
oo 4 (.mv (.k (.d (.i .i64 (-1)))))]) (
.ret))), [.slot 4]⟩
def n239 : Notes := { anns := [⟨[0, 1, 7, 8], [], [], [], [], true⟩], frz := [], rgs := [] }
def c241 : CFn := ⟨.seq (.region false [
oo 1 (.box (.t 0)),
oo 2 (.mv (.k (.d (.b false))))]) (
.seq (.region false [
oo 3 (.fa 0 (.t 1)),
oo 4 (.ld false 1 (.t 3)),
oo 5 (.bin .eql (.t 4) (.k (.d (.i .i64 0)))),
oo 6 (.mv (.t 5)),
⟨some 7, .fa 1 (.t 1), (some (6, true)), 0⟩,
⟨some 8, .ld false 1 (.t 7), (some (6, true)), 0⟩,
⟨some 9, .bin .eql (.t 8) (.k (.d (.i .i64 0))), (some (6, true)), 0⟩,
oo 10 (.pick (.t 6) (.t 9) (.k (.d (.b false)))),
oo 11 (.mv (.t 10)),
⟨some 12, .fa 2 (.t 1), (some (11, true)), 0⟩,
⟨some 13, .ld false 1 (.t 12), (some (11, true)), 0⟩,
⟨some 14, .bin .eql (.t 13) (.k (.d (.s []))), (some (11, true)), 0⟩,
oo 15 (.pick (.t 11) (.t 14) (.k (.d (.b false)))),
oo 16 (.mv (.t 15)),
⟨some 17, .fa 3 (.t 1), (some (16, true)), 0⟩,
⟨some 18, .ld false 1 (.t 17), (some (16, true)), 0⟩,
⟨some 19, .len 0 (.t 18), (some (16, true)), 0⟩,
⟨some 20, .bin .eql (.t 19) (.k (.d (.i .i64 0))), (some (16, true)), 0⟩,
oo 21 (.pick (.t 16) (.t 20) (.k (.d (.b false)))),
oo 2 (.mv (.t 21))]) (
.ret)), [.slot 2]⟩
def n241 : Notes := { anns := [], frz := [], rgs := [] }
def c263 : CFn := ⟨.seq (.region false [
oo 6 (.mv (.k (.d (.b false))))]) (
.seq (.seq (.region false [
oo 16 (.call 264 [] 0 true),
oo 17 (.un .not (.t 16))]) (
.cond (.t 17) (
.seq (.region false [
oo 6 (.mv (.k (.d (.b false))))]) (
.ret)) (.skip))) (
.seq (.seq (.region false [
oo 18 (.mv (.t 2)),
oo 19 (.len 0 (.t 18)),
oo 20 (.bin .gtr (.t 19) (.k (.d (.i .i64 60))))]) (
.cond (.t 20) (
.seq (.region false [
oo 6 (.mv (.k (.d (.b true))))]) (
.ret)) (.skip))) (
.seq (.region false [
oo 21 (.mv (.t 0)),
oo 22 (.call 273 [.t 21] 0 true),
oo 7 (.zero (.agg [(.d (.i .i64 0)), (.d (.i .i64 0)), (.d (.i .i64 0)), (.d (.s [])), (.nil 4), (.d (.i .i64 0)), (.d (.i .i64 0)), (.nil 8)])),
⟨none, .st 8 (.t 7) (.t 22), none, 0⟩]) (
.seq (.region false [
oo 23 (.mv (.t 1)),
oo 24 (.call 273 [.t 23] 0 true),
oo 8 (.zero (.agg [(.d (.i .i64 0)), (.d (.i .i64 0)), (.d (.i .i64 0)), (.d (.s [])), (.nil 4), (.d (.i .i64 0)), (.d (.i .i64 0)), (.nil 8)])),
⟨none, .st 8 (.t 8) (.t 24), none, 0⟩]) (
.seq (.region false [
oo 25 (.mv (.t 2)),
oo 26 (.call 108 [.t 25] 4 true),
oo 27 (.call 267 [.t 26, (.k (.d (.i .i64 3)))] 4 true),
oo 9 (.zero (.agg [(.d (.i .i64 0)), (.d (.i .i64 0)), (.d (.i .i64 0)), (.d (.s [])), (.nil 4), (.d (.i .i64 0)), (.d (.i .i64 0)), (.nil 8)])),
⟨none, .st 8 (.t 9) (.t 27), none, 0⟩]) (
.seq (.region true [
oo 28 (.ld true 8 (.t 7)),
oo 29 (.ld true 8 (.t 8)),
oo 30 (.ld true 8 (.t 9)),
⟨some 31, .bsl 8 3 [(.i .i64 0), (.i .i64 0), (.i .i64 0), (.s []), (.l 4 []), (.i .i64 0), (.i .i64 0), (.l 8 [])] [(0, .t 28), (1, .t 29), (2, .t 30)], none, 7⟩,
⟨some 32, .call 272 [(.k (.d (.i .i64 12))), (.t 31)] 0 true, none, 15⟩,
⟨some 33, .call 269 [.t 32, (.k (.nil 1)), (.k (.nil 1))] 0 true, none, 31⟩,
oo 34 (.ld true 8 (.t 7)),
oo 35 (.ld true 8 (.t 9)),
oo 36 (.ld true 8 (.t 8)),
⟨some 37, .bsl 8 3 [(.i .i64 0), (.i .i64 0), (.i .i64 0), (.s []), (.l 4 []), (.i .i64 0), (.i .i64 0), (.l 8 [])] [(0, .t 34), (1, .t 35), (2, .t 36)], none, 448⟩,
⟨some 38, .call 272 [(.k (.d (.i .i64 12))), (.t 37)] 0 true, none, 1023⟩,
⟨some 39, .call 269 [.t 38, (.k (.nil 1)), (.k (.nil 1))] 0 true, none, 2047⟩,
oo 10 (.zero (.agg [(.d (.i .i64 0)), (.d (.i .i64 0)), (.d (.s [])), (.nil 4)])),
oo 11 (.zero (.agg [(.d (.i .i64 0)), (.d (.i .i64 0)), (.d (.s [])), (.nil 4)])),
⟨none, .st 4 (.t 10) (.t 33), none, 16383⟩,
⟨none, .st 4 (.t 11) (.t 39), none, 32767⟩]) (
.seq (.region false [
oo 40 (.ld true 4 (.t 10)),
oo 12 (.zero (.agg [(.d (.i .i64 0)), (.d (.i .i64 0)), (.d (.s [])), (.nil 4)])),
⟨none, .st 4 (.t 12) (.t 40), none, 0⟩]) (
.seq (.seq (.region false [
oo 41 (.mv (.t 0)),
oo 42 (.un .not (.t 41))]) (
.cond (.t 42) (
.region false [
oo 43 (.ld true 4 (.t 11)),
⟨none, .st 4 (.t 12) (.t 43), none, 0⟩]) (.skip))) (
.seq (.region true [
oo 44 (.ld true 8 (.t 7)),
oo 45 (.ld true 8 (.t 8)),
⟨some 46, .bsl 8 2 [(.i .i64 0), (.i .i64 0), (.i .i64 0), (.s []), (.l 4 []), (.i .i64 0), (.i .i64 0), (.l 8 [])] [(0, .t 44), (1, .t 45)], none, 3⟩,
⟨some 47, .call 272 [(.k (.d (.i .i64 9))), (.t 46)] 0 true, none, 7⟩,
⟨some 48, .call 269 [.t 47, (.k (.nil 1)), (.k (.nil 1))] 0 true, none, 15⟩,
oo 49 (.ld true 8 (.t 7)),
oo 50 (.ld true 8 (.t 8)),
⟨some 51, .bsl 8 2 [(.i .i64 0), (.i .i64 0), (.i .i64 0), (.s []), (.l 4 []), (.i .i64 0), (.i .i64 0), (.l 8 [])] [(0, .t 49), (1, .t 50)], none, 96⟩,
⟨some 52, .call 272 [(.k (.d (.i .i64 10))), (.t 51)] 0 true, none, 255⟩,
⟨some 53, .call 269 [.t 52, (.k (.nil 1)), (.k (.nil 1))] 0 true, none, 511⟩,
oo 54 (.ld true 8 (.t 7)),
⟨some 55, .bsl 8 1 [(.i .i64 0), (.i .i64 0), (.i .i64 0), (.s []), (.l 4 []), (.i .i64 0), (.i .i64 0), (.l 8 [])] [(0, .t 54)], none, 1024⟩,
⟨some 56, .call 272 [(.k (.d (.i .i64 11))), (.t 55)] 0 true, none, 4095⟩,
⟨some 57, .call 269 [.t 56, (.k (.nil 1)), (.k (.nil 1))] 0 true, none, 8191⟩,
oo 13 (.zero (.agg [(.d (.i .i64 0)), (.d (.i .i64 0)), (.d (.s [])), (.nil 4)])),
oo 14 (.zero (.agg [(.d (.i .i64 0)), (.d (.i .i64 0)), (.d (.s [])), (.nil 4)])),
oo 15 (.zero (.agg [(.d (.i .i64 0)), (.d (.i .i64 0)), (.d (.s [])), (.nil 4)])),
⟨none, .st 4 (.t 13) (.t 48), none, 131071⟩,
⟨none, .st 4 (.t 14) (.t 53), none, 262143⟩,
⟨none, .st 4 (.t 15) (.t 57), none, 524287⟩]) (
.seq (.region false [
oo 58 (.ld true 4 (.t 12)),
oo 59 (.fa 1 (.t 8)),
oo 60 (.ld true 4 (.t 59)),
oo 61 (.call 121 [.t 58, .t 60] 0 true),
oo 62 (.mv (.t 61)),
⟨some 63, .fa 1 (.t 13), (some (62, true)), 0⟩,
⟨some 64, .ld false 1 (.t 63), (some (62, true)), 0⟩,
⟨some 65, .bin .eql (.t 64) (.k (.d (.i .i64 1))), (some (62, true)), 0⟩,
⟨some 66, .mv (.t 0), (some (62, true)), 0⟩,
⟨some 67, .mv (.t 66), (some (62, true)), 0⟩,
⟨some 68, .mv (.t 1), (some (67, true)), 0⟩,
⟨some 69, .pick (.t 67) (.t 68) (.k (.d (.b false))), (some (62, true)), 0⟩,
⟨some 70, .eqb false (.t 65) (.t 69), (some (62, true)), 0⟩,
oo 71 (.pick (.t 62) (.t 70) (.k (.d (.b false)))),
oo 72 (.mv (.t 71)),
⟨some 73, .fa 1 (.t 14), (some (72, true)), 0⟩,
⟨some 74, .ld false 1 (.t 73), (some (72, true)), 0⟩,
⟨some 75, .bin .eql (.t 74) (.k (.d (.i .i64 1))), (some (72, true)), 0⟩,
⟨some 76, .mv (.t 0), (some (72, true)), 0⟩,
⟨some 77, .mv (.t 76), (some (72, true)), 0⟩,
⟨some 78, .mv (.t 1), (some (77, false)), 0⟩,
⟨some 79, .pick (.t 77) (.k (.d (.b true))) (.t 78), (some (72, true)), 0⟩,
⟨some 80, .eqb false (.t 75) (.t 79), (some (72, true)), 0⟩,
oo 81 (.pick (.t 72) (.t 80) (.k (.d (.b false)))),
oo 82 (.mv (.t 81)),
⟨some 83, .fa 1 (.t 15), (some (82, true)), 0⟩,
⟨some 84, .ld false 1 (.t 83), (some (82, true)), 0⟩,
⟨some 85, .bin .eql (.t 84) (.k (.d (.i .i64 1))), (some (82, true)), 0⟩,
⟨some 86, .mv (.t 0), (some (82, true)), 0⟩,
⟨some 87, .un .not (.t 86), (some (82, true)), 0⟩,
⟨some 88, .eqb false (.t 85) (.t 87), (some (82, true)), 0⟩,
oo 89 (.pick (.t 82) (.t 88) (.k (.d (.b false)))),
oo 90 (.mv (.t 89)),
⟨some 91, .fa 0 (.t 13), (some (90, true)), 0⟩,
⟨some 92, .ld false 1 (.t 91), (some (90, true)), 0⟩,
⟨some 93, .bin .eql (.t 92) (.k (.d (.i .i64 2))), (some (90, true)), 0⟩,
oo 94 (.pick (.t 90) (.t 93) (.k (.d (.b false)))),
oo 95 (.mv (.t 94)),
⟨some 96, .fa 0 (.t 14), (some (95, true)), 0⟩,
⟨some 97, .ld false 1 (.t 96), (some (95, true)), 0⟩,
⟨some 98, .bin .eql (.t 97) (.k (.d (.i .i64 2))), (some (95, true)), 0⟩,
oo 99 (.pick (.t 95) (.t 98) (.k (.d (.b false)))),
oo 100 (.mv (.t 99)),
⟨some 101, .fa 0 (.t 15), (some (100, true)), 0⟩,
⟨some 102, .ld false 1 (.t 101), (some (100, true)), 0⟩,
⟨some 103, .bin .eql (.t 102) (.k (.d (.i .i64 2))), (some (100, true)), 0⟩,
oo 104 (.pick (.t 100) (.t 103) (.k (.d (.b false)))),
oo 6 (.mv (.t 104))]) (
.ret))))))))))), [.slot 6]⟩
def n263 : Notes := { anns := [], frz := [], rgs := [] }
def c264 : CFn := ⟨.seq (.region false [
oo 0 (.mv (.k (.d (.b false))))]) (
.seq (.region false [
oo 6 (.build [(.d (.i .i64 0)), (.d (.i .i64 0)), (.d (.s [])), (.nil 4)] [(0, 1, (.k (.d (.i .i64 1)))), (1, 1, (.k (.d (.i .i64 2))))]),
oo 7 (.build [(.d (.i .i64 0)), (.d (.i .i64 0)), (.d (.i .i64 0)), (.d (.s [])), (.nil 4), (.d (.i .i64 0)), (.d (.i .i64 0)), (.nil 8)] [(1, 4, .t 6)]),
oo 1 (.zero (.agg [(.d (.i .i64 0)), (.d (.i .i64 0)), (.d (.i .i64 0)), (.d (.s [])), (.nil 4), (.d (.i .i64 0)), (.d (.i .i64 0)), (.nil 8)])),
⟨none, .st 8 (.t 1) (.t 7), none, 0⟩]) (
.seq (.region false [
oo 8 (.ld true 8 (.t 1)),
oo 9 (.build [(.d (.i .i64 0)), (.d (.i .i64 0)), (.d (.i .i64 0)), (.d (.s [])), (.nil 4), (.d (.i .i64 0)), (.d (.i .i64 0)), (.nil 8)] [(0, 1, (.k (.d (.i .i64 1)))), (5, 1, (.k (.d (.i .i64 1))))]),
oo 10 (.bsl 8 2 [(.i .i64 0), (.i .i64 0), (.i .i64 0), (.s []), (.l 4 []), (.i .i64 0), (.i .i64 0), (.l 8 [])] [(0, .t 8), (1, .t 9)]),
oo 11 (.build [(.d (.i .i64 0)), (.d (.i .i64 0)), (.d (.i .i64 0)), (.d (.s [])), (.nil 4), (.d (.i .i64 0)), (.d (.i .i64 0)), (.nil 8)] [(0, 1, (.k (.d (.i .i64 4)))), (7, 1, .t 10)]),
oo 2 (.zero (.agg [(.d (.i .i64 0)), (.d (.i .i64 0)), (.d (.i .i64 0)), (.d (.s [])), (.nil 4), (.d (.i .i64 0)), (.d (.i .i64 0)), (.nil 8)])),
⟨none, .st 8 (.t 2) (.t 11), none, 0⟩]) (
.seq (.region false [
oo 12 (.ld true 8 (.t 2)),
oo 13 (.build [(.d (.i .i64 0)), (.d (.i .i64 0)), (.d (.s [])), (.nil 4)] [(0, 1, (.k (.d (.i .i64 1)))), (1, 1, (.k (.d (.i .i64 3))))]),
oo 14 (.bsl 4 1 [(.i .i64 0), (.i .i64 0), (.s []), (.l 4 [])] [(0, .t 13)]),
oo 15 (.bsl 1 2 [(.l 4 [])] [(0, (.k (.nil 4))), (1, .t 14)]),
oo 16 (.call 269 [.t 12, .t 15, (.k (.nil 1))] 0 true),
oo 3 (.zero (.agg [(.d (.i .i64 0)), (.d (.i .i64 0)), (.d (.s [])), (.nil 4)])),
⟨none, .st 4 (.t 3) (.t 16), none, 0⟩]) (
.seq (.region false [
oo 17 (.build [(.d (.i .i64 0)), (.d (.i .i64 0)), (.d (.i .i64 0)), (.d (.s [])), (.nil 4), (.d (.i .i64 0)), (.d (.i .i64 0)), (.nil 8)] [(0, 1, (.k (.d (.i .i64 3)))), (5, 1, (.k (.d (.i .i64 0))))]),
oo 18 (.bsl 1 1 [(.s [])] [(0, (.k (.d (.s [49, 50]))))]),
oo 19 (.call 269 [.t 17, (.k (.nil 1)), (.t 18)] 0 true),
oo 4 (.zero (.agg [(.d (.i .i64 0)), (.d (.i .i64 0)), (.d (.s [])), (.nil 4)])),
⟨none, .st 4 (.t 4) (.t 19), none, 0⟩]) (
.seq (.region false [
oo 20 (.ld true 8 (.t 2)),
oo 21 (.call 192 [.t 20] 0 true),
oo 5 (.mv (.t 21))]) (
.seq (.region false [
oo 22 (.ld true 8 (.t 2)),
oo 23 (.call 210 [.t 22] 0 true),
oo 24 (.mv (.t 23)),
⟨some 25, .build [(.d (.i .i64 0)), (.d (.i .i64 0)), (.d (.i .i64 0)), (.d (.s [])), (.nil 4), (.d (.i .i64 0)), (.d (.i .i64 0)), (.nil 8)] [], (some (24, true)), 0⟩,
⟨some 26, .call 210 [.t 25] 0 true, (some (24, true)), 0⟩,
⟨some 27, .un .not (.t 26), (some (24, true)), 0⟩,
oo 28 (.pick (.t 24) (.t 27) (.k (.d (.b false)))),
oo 29 (.mv (.t 28)),
⟨some 30, .fa 0 (.t 3), (some (29, true)), 0⟩,
⟨some 31, .ld false 1 (.t 30), (some (29, true)), 0⟩,
⟨some 32, .bin .eql (.t 31) (.k (.d (.i .i64 1))), (some (29, true)), 0⟩,
oo 33 (.pick (.t 29) (.t 32) (.k (.d (.b false)))),
oo 34 (.mv (.t 33)),
⟨some 35, .fa 1 (.t 3), (some (34, true)), 0⟩,
⟨some 36, .ld false 1 (.t 35), (some (34, true)), 0⟩,
⟨some 37, .bin .eql (.t 36) (.k (.d (.i .i64 5))), (some (34, true)), 0⟩,
oo 38 (.pick (.t 34) (.t 37) (.k (.d (.b false)))),
oo 39 (.mv (.t 38)),
⟨some 40, .fa 1 (.t 4), (some (39, true)), 0⟩,
⟨some 41, .ld false 1 (.t 40), (some (39, true)), 0⟩,
⟨some 42, .bin .eql (.t 41) (.k (.d (.i .i64 12))), (some (39, true)), 0⟩,
oo 43 (.pick (.t 39) (.t 42) (.k (.d (.b false)))),
oo 44 (.mv (.t 43)),
⟨some 45, .mv (.t 5), (some (44, true)), 0⟩,
⟨some 46, .len 0 (.t 45), (some (44, true)), 0⟩,
⟨some 47, .bin .eql (.t 46) (.k (.d (.i .i64 1))), (some (44, true)), 0⟩,
oo 48 (.pick (.t 44) (.t 47) (.k (.d (.b false)))),
oo 49 (.mv (.t 48)),
⟨some 50, .mv (.t 5), (some (49, true)), 0⟩,
⟨some 51, .ia 2 (.t 50) (.k (.d (.i .i64 0))), (some (49, true)), 0⟩,
⟨some 52, .ld true 2 (.t 51), (some (49, true)), 0⟩,
⟨some 53, .build [(.d (.i .i64 0)), (.d (.i .i64 0))] [(0, 1, (.k (.d (.i .i64 1)))), (1, 1, (.k (.d (.i .i64 0))))], (some (49, true)), 0⟩,
⟨some 54, .eqa [.i, .i] false (.t 52) (.t 53), (some (49, true)), 0⟩,
oo 55 (.pick (.t 49) (.t 54) (.k (.d (.b false)))),
oo 0 (.mv (.t 55))]) (
.ret))))))), [.slot 0]⟩
def n264 : Notes := { anns := [], frz := [], rgs := [] }
def c267 : CFn := ⟨.seq (.region false [
oo 4 (.zero (.agg [(.d (.i .i64 0)), (.d (.i .i64 0)), (.d (.i .i64 0)), (.d (.s [])), (.nil 4), (.d (.i .i64 0)), (.d (.i .i64 0)), (.nil 8)]))]) (
.seq (.region false [
oo 9 (.mv (.t 0)),
oo 10 (.call 123 [.t 9, (.k (.d (.i .i64 30)))] 4 true),
oo 5 (.mv (.t 10))]) (
.seq (.block 0 (.seq (.region false [
oo 12 (.mv (.t 1)),
oo 13 (.bin .leq (.t 12) (.k (.d (.i .i64 1)))),
oo 14 (.mv (.t 13)),
⟨some 15, .mv (.t 5), (some (14, false)), 0⟩,
⟨some 16, .bin .lss (.t 15) (.k (.d (.i .i64 6))), (some (14, false)), 0⟩,
oo 17 (.pick (.t 14) (.k (.d (.b true))) (.t 16)),
oo 11 (.mv (.t 17))]) (
.cond (.t 11) (
.seq (.region false [
oo 18 (.mv (.t 0)),
oo 19 (.call 274 [.t 18] 4 true),
⟨none, .st 8 (.t 4) (.t 19), none, 0⟩]) (
.ret)) (.seq (.region false [
oo 21 (.mv (.t 5)),
oo 22 (.bin .lss (.t 21) (.k (.d (.i .i64 12)))),
oo 20 (.mv (.t 22))]) (
.cond (.t 20) (
.seq (.region false [
oo 23 (.mv (.t 0)),
oo 24 (.call 123 [.t 23, (.k (.d (.i .i64 3)))] 4 true),
oo 25 (.bin .add (.k (.d (.i .i64 4))) (.t 24)),
oo 26 (.mv (.t 0)),
oo 27 (.mv (.t 1)),
oo 28 (.bin .sub (.t 27) (.k (.d (.i .i64 1)))),
oo 29 (.call 267 [.t 26, .t 28] 4 true),
oo 30 (.mv (.t 0)),
oo 31 (.mv (.t 1)),
oo 32 (.bin .sub (.t 31) (.k (.d (.i .i64 1)))),
oo 33 (.call 267 [.t 30, .t 32] 4 true),
oo 34 (.bsl 8 2 [(.i .i64 0), (.i .i64 0), (.i .i64 0), (.s []), (.l 4 []), (.i .i64 0), (.i .i64 0), (.l 8 [])] [(0, .t 29), (1, .t 33)]),
oo 35 (.build [(.d (.i .i64 0)), (.d (.i .i64 0)), (.d (.i .i64 0)), (.d (.s [])), (.nil 4), (.d (.i .i64 0)), (.d (.i .i64 0)), (.nil 8)] [(0, 1, .t 25), (7, 1, .t 34)]),
⟨none, .st 8 (.t 4) (.t 35), none, 0⟩]) (
.ret)) (.skip)))))) (
.seq (.region false [
oo 36 (.mv (.t 0)),
oo 37 (.call 123 [.t 36, (.k (.d (.i .i64 16)))] 4 true),
oo 38 (.bin .add (.k (.d (.i .i64 7))) (.t 37)),
oo 39 (.build [(.d (.i .i64 0)), (.d (.i .i64 0)), (.d (.i .i64 0)), (.d (.s [])), (.nil 4), (.d (.i .i64 0)), (.d (.i .i64 0)), (.nil 8)] [(0, 1, .t 38)]),
oo 6 (.zero (.agg [(.d (.i .i64 0)), (.d (.i .i64 0)), (.d (.i .i64 0)), (.d (.s [])), (.nil 4), (.d (.i .i64 0)), (.d (.i .i64 0)), (.nil 8)])),
⟨none, .st 8 (.t 6) (.t 39), none, 0⟩]) (
.seq (.region false [
oo 7 (.mv (.k (.d (.i .i64 2))))]) (
.seq (.seq (.region false [
oo 40 (.fa 0 (.t 6)),
oo 41 (.ld false 1 (.t 40))]) (
.block 1 (.seq (.seq (.region false [
oo 43 (.bin .eql (.t 41) (.k (.d (.i .i64 21)))),
oo 42 (.mv (.t 43))]) (
.cond (.t 42) (
.skip) (.region false [
oo 44 (.bin .eql (.t 41) (.k (.d (.i .i64 22)))),
oo 42 (.mv (.t 44))]))) (
.cond (.t 42) (
.region false [
oo 7 (.mv (.k (.d (.i .i64 0))))]) (.seq (.seq (.region false [
oo 46 (.bin .eql (.t 41) (.k (.d (.i .i64 11)))),
oo 45 (.mv (.t 46))]) (
.cond (.t 45) (
.skip) (.region false [
oo 47 (.bin .eql (.t 41) (.k (.d (.i .i64 15)))),
oo 45 (.mv (.t 47))]))) (
.cond (.t 45) (
.region false [
oo 7 (.mv (.k (.d (.i .i64 1))))]) (.seq (.seq (.region false [
oo 49 (.bin .eql (.t 41) (.k (.d (.i .i64 12)))),
oo 48 (.mv (.t 49))]) (
.cond (.t 48) (
.skip) (.region false [
oo 50 (.bin .eql (.t 41) (.k (.d (.i .i64 16)))),
oo 48 (.mv (.t 50))]))) (
.cond (.t 48) (
.region false [
oo 7 (.mv (.k (.d (.i .i64 3))))]) (.seq (.region false [
oo 52 (.bin .eql (.t 41) (.k (.d (.i .i64 14)))),
oo 51 (.mv (.t 52))]) (
.cond (.t 51) (
.region false [
oo 53 (.mv (.t 0)),
oo 54 (.call 123 [.t 53, (.k (.d (.i .i64 4)))] 4 true),
oo 7 (.mv (.t 54))]) (.skip))))))))))) (
.seq (.seq (.region false [
oo 8 (.mv (.k (.d (.i .i64 0))))]) (
.block 2 (.loop ⟨[0, 1, 4, 6, 7, 8], [], [(6, 7)], [], [], true⟩ (.seq (.seq (.region false [
oo 55 (.mv (.t 8)),
oo 56 (.mv (.t 7)),
oo 57 (.bin .lss (.t 55) (.t 56))]) (
.cond (.t 57) (
.skip) (.exit 2))) (
.seq (.block 3 (.region true [
oo 60 (.fa 7 (.t 6)),
⟨some 61, .ld false 1 (.t 60), none, 1⟩,
oo 62 (.mv (.t 0)),
oo 63 (.mv (.t 1)),
⟨some 64, .bin .sub (.t 63) (.k (.d (.i .i64 1))), none, 8⟩,
⟨some 65, .call 267 [.t 62, .t 64] 4 true, none, 28⟩,
⟨some 66, .bsl 8 1 [(.i .i64 0), (.i .i64 0), (.i .i64 0), (.s []), (.l 4 []), (.i .i64 0), (.i .i64 0), (.l 8 [])] [(0, .t 65)], none, 60⟩,
⟨some 67, .app 8 104 (.t 61) (.t 66), none, 127⟩,
⟨some 68, .fa 7 (.t 6), none, 255⟩,
⟨none, .st 1 (.t 68) (.t 67), none, 511⟩])) (
.region false [
oo 58 (.mv (.t 8)),
oo 59 (.bin .add (.t 58) (.k (.d (.i .i64 1)))),
oo 8 (.mv (.t 59))])))))) (
.seq (.region false [
oo 69 (.ld true 8 (.t 6)),
⟨none, .st 8 (.t 4) (.t 69), none, 0⟩]) (
.ret)))))))), [.cell 4 true 8]⟩
def n267 : Notes := { anns := [⟨[0, 1, 4, 6, 7, 8], [], [(6, 7)], [], [], true⟩], frz := [], rgs := [] }
def c269 : CFn := ⟨.seq (.region false [
oo 3 (.box (.t 0)),
oo 6 (.zero (.agg [(.d (.i .i64 0)), (.d (.i .i64 0)), (.d (.s [])), (.nil 4)]))]) (
.seq (.region false [
oo 7 (.mv (.t 1)),
oo 8 (.mv (.t 2)),
oo 9 (.build [(.nil 1), (.nil 1)] [(0, 1, .t 7), (1, 1, .t 8)]),
oo 10 (.ld true 8 (.t 3)),
oo 11 (.call 277 [.t 9, .t 10] 0 true),
oo 12 (.call 276 [.t 11] 0 true),
⟨none, .st 4 (.t 6) (.t 12), none, 0⟩]) (
.ret)), [.cell 6 true 4]⟩
def n269 : Notes := { anns := [], frz := [], rgs := [] }
def c271 : CFn := ⟨.seq (.region false [
oo 1 (.box (.t 0)),
oo 2 (.zero (.agg [(.d (.i .i64 0)), (.d (.i .i64 0)), (.d (.i .i64 0)), (.d (.s [])), (.nil 4), (.d (.i .i64 0)), (.d (.i .i64 0)), (.nil 8)]))]) (
.seq (.region false [
oo 3 (.ld true 4 (.t 1)),
oo 4 (.build [(.d (.i .i64 0)), (.d (.i .i64 0)), (.d (.i .i64 0)), (.d (.s [])), (.nil 4), (.d (.i .i64 0)), (.d (.i .i64 0)), (.nil 8)] [(1, 4, .t 3)]),
⟨none, .st 8 (.t 2) (.t 4), none, 0⟩]) (
.ret)), [.cell 2 true 8]⟩
def n271 : Notes := { anns := [], frz := [], rgs := [] }
def c272 : CFn := ⟨.seq (.region false [
oo 4 (.zero (.agg [(.d (.i .i64 0)), (.d (.i .i64 0)), (.d (.i .i64 0)), (.d (.s [])), (.nil 4), (.d (.i .i64 0)), (.d (.i .i64 0)), (.nil 8)]))]) (
.seq (.region false [
oo 5 (.mv (.t 0)),
oo 6 (.mv (.t 1)),
oo 7 (.build [(.d (.i .i64 0)), (.d (.i .i64 0)), (.d (.i .i64 0)), (.d (.s [])), (.nil 4), (.d (.i .i64 0)), (.d (.i .i64 0)), (.nil 8)] [(0, 1, .t 5), (7, 1, .t 6)]),
⟨none, .st 8 (.t 4) (.t 7), none, 0⟩]) (
.ret)), [.cell 4 true 8]⟩
def n272 : Notes := { anns := [], frz := [], rgs := [] }
def c273 : CFn := ⟨.seq (.region false [
oo 2 (.zero (.agg [(.d (.i .i64 0)), (.d (.i .i64 0)), (.d (.i .i64 0)), (.d (.s [])), (.nil 4), (.d (.i .i64 0)), (.d (.i .i64 0)), (.nil 8)]))]) (
.seq (.seq (.region false [
oo 3 (.mv (.t 0))]) (
.cond (.t 3) (
.seq (.region false [
oo 4 (.build [(.d (.i .i64 0)), (.d (.i .i64 0)), (.d (.s [])), (.nil 4)] [(0, 1, (.k (.d (.i .i64 2)))), (1, 1, (.k (.d (.i .i64 1))))]),
oo 5 (.call 271 [.t 4] 0 true),
⟨none, .st 8 (.t 2) (.t 5), none, 0⟩]) (
.ret)) (.skip))) (
.seq (.region false [
oo 6 (.build [(.d (.i .i64 0)), (.d (.i .i64 0)), (.d (.s [])), (.nil 4)] [(0, 1, (.k (.d (.i .i64 2))))]),
oo 7 (.call 271 [.t 6] 0 true),
⟨none, .st 8 (.t 2) (.t 7), none, 0⟩]) (
.ret))), [.cell 2 true 8]⟩
def n273 : Notes := { anns := [], frz := [], rgs := [] }
def c274 : CFn := ⟨.seq (.region false [
oo 2 (.zero (.agg [(.d (.i .i64 0)), (.d (.i .i64 0)), (.d (.i .i64 0)), (.d (.s [])), (.nil 4), (.d (.i .i64 0)), (.d (.i .i64 0)), (.nil 8)]))]) (
.seq (.seq (.region false [
oo 3 (.mv (.t 0)),
oo 4 (.call 123 [.t 3, (.k (.d (.i .i64 6)))] 4 true)]) (
.block 0 (.seq (.region false [
oo 6 (.bin .eql (.t 4) (.k (.d (.i .i64 0)))),
oo 5 (.mv (.t 6))]) (
.cond (.t 5) (
.seq (.region false [
oo 7 (.mv (.t 0)),
oo 8 (.call 123 [.t 7, (.k (.d (.i .i64 4)))] 4 true),
oo 9 (.mv (.t 0)),
oo 10 (.call 123 [.t 9, (.k (.d (.i .i64 3)))] 4 true),
oo 11 (.build [(.d (.i .i64 0)), (.d (.i .i64 0)), (.d (.i .i64 0)), (.d (.s [])), (.nil 4), (.d (.i .i64 0)), (.d (.i .i64 0)), (.nil 8)] [(0, 1, (.k (.d (.i .i64 1)))), (5, 1, .t 8), (6, 1, .t 10)]),
⟨none, .st 8 (.t 2) (.t 11), none, 0⟩]) (
.ret)) (.seq (.region false [
oo 13 (.bin .eql (.t 4) (.k (.d (.i .i64 1)))),
oo 12 (.mv (.t 13))]) (
.cond (.t 12) (
.seq (.region false [
oo 14 (.mv (.t 0)),
oo 15 (.call 123 [.t 14, (.k (.d (.i .i64 2)))] 4 true),
oo 16 (.bin .add (.k (.d (.i .i64 2))) (.t 15)),
oo 17 (.mv (.t 0)),
oo 18 (.call 123 [.t 17, (.k (.d (.i .i64 3)))] 4 true),
oo 19 (.build [(.d (.i .i64 0)), (.d (.i .i64 0)), (.d (.i .i64 0)), (.d (.s [])), (.nil 4), (.d (.i .i64 0)), (.d (.i .i64 0)), (.nil 8)] [(0, 1, .t 16), (5, 1, .t 18)]),
⟨none, .st 8 (.t 2) (.t 19), none, 0⟩]) (
.ret)) (.seq (.region false [
oo 21 (.bin .eql (.t 4) (.k (.d (.i .i64 2)))),
oo 20 (.mv (.t 21))]) (
.cond (.t 20) (
.seq (.region false [
oo 22 (.mv (.t 0)),
oo 23 (.call 123 [.t 22, (.k (.d (.i .i64 2)))] 4 true),
oo 24 (.bin .add (.k (.d (.i .i64 21))) (.t 23)),
oo 25 (.build [(.d (.i .i64 0)), (.d (.i .i64 0)), (.d (.i .i64 0)), (.d (.s [])), (.nil 4), (.d (.i .i64 0)), (.d (.i .i64 0)), (.nil 8)] [(0, 1, .t 24)]),
⟨none, .st 8 (.t 2) (.t 25), none, 0⟩]) (
.ret)) (.skip))))))))) (
.seq (.region false [
oo 26 (.mv (.t 0)),
oo 27 (.call 109 [.t 26, (.k (.d (.i .i64 2)))] 4 true),
oo 28 (.build [(.d (.i .i64 0)), (.d (.i .i64 0)), (.d (.i .i64 0)), (.d (.s [])), (.nil 4), (.d (.i .i64 0)), (.d (.i .i64 0)), (.nil 8)] [(0, 1, (.k (.d (.i .i64 0)))), (1, 4, .t 27)]),
⟨none, .st 8 (.t 2) (.t 28), none, 0⟩]) (
.ret))), [.cell 2 true 8]⟩
def n274 : Notes := { anns := [], frz := [], rgs := [] }
def c276 : CFn := ⟨.seq (.region false [
oo 1 (.box (.t 0)),
oo 2 (.zero (.agg [(.d (.i .i64 0)), (.d (.i .i64 0)), (.d (.s [])), (.nil 4)]))]) (
.seq (.region false [
oo 6 (.fa 3 (.t 1)),
oo 7 (.ld false 1 (.t 6)),
oo 8 (.call 146 [.t 7] 4 false),
oo 3 (.mv (.t 8))]) (
.seq (.seq (.region false [
oo 9 (.mv (.t 3)),
oo 10 (.len 0 (.t 9)),
oo 11 (.mv (.k (.d (.i .i64 0))))]) (
.block 0 (.loop ⟨[1, 2, 3, 9, 10, 11], [], [], [], [], true⟩ (.seq (.region false [
oo 12 (.bin .lss (.t 11) (.t 10))]) (
.seq (.cond (.t 12) (
.skip) (.exit 0)) (
.seq (.block 1 (.seq (.region false [
oo 13 (.mv (.t 11)),
oo 14 (.ia 4 (.t 9) (.t 11)),
oo 15 (.ld true 4 (.t 14)),
oo 5 (.zero (.agg [(.d (.i .i64 0)), (.d (.i .i64 0)), (.d (.s [])), (.nil 4)])),
oo 4 (.mv (.t 13)),
⟨none, .st 4 (.t 5) (.t 15), none, 0⟩]) (
.region false [
oo 16 (.mv (.t 3)),
oo 17 (.mv (.t 4)),
oo 18 (.ld true 4 (.t 5)),
oo 19 (.call 276 [.t 18] 0 true),
oo 20 (.ia 4 (.t 16) (.t 17)),
⟨none, .st 4 (.t 20) (.t 19), none, 0⟩]))) (
.region false [
oo 21 (.bin .add (.t 11) (.k (.d (.i .i64 1)))),
oo 11 (.mv (.t 21))]))))))) (
.seq (.region false [
oo 22 (.mv (.t 3)),
oo 23 (.fa 3 (.t 1)),
⟨none, .st 1 (.t 23) (.t 22), none, 0⟩]) (
.seq (.region false [
oo 24 (.ld true 4 (.t 1)),
⟨none, .st 4 (.t 2) (.t 24), none, 0⟩]) (
.ret))))), [.cell 2 true 4]⟩
def n276 : Notes := { anns := [⟨[1, 2, 3, 9, 10, 11], [], [], [], [], true⟩], frz := [0, 0, 0, 0, 1], rgs := [] }
def c277 : CFn := ⟨.seq (.region false [
oo 2 (.box (.t 0)),
oo 3 (.box (.t 1)),
oo 4 (.zero (.agg [(.d (.i .i64 0)), (.d (.i .i64 0)), (.d (.s [])), (.nil 4)]))]) (
.seq (.region false [
oo 11 (.fa 0 (.t 3)),
oo 12 (.ld false 1 (.t 11)),
oo 13 (.call 236 [.t 12] 0 true),
oo 5 (.mv (.t 13))]) (
.seq (.block 0 (.seq (.region false [
oo 44 (.mv (.t 5)),
oo 45 (.bin .eql (.t 44) (.k (.d (.i .i64 (-2))))),
oo 46 (.mv (.t 45)),
⟨some 47, .fa 7 (.t 3), (some (46, false)), 0⟩,
⟨some 48, .ld false 1 (.t 47), (some (46, false)), 0⟩,
⟨some 49, .len 0 (.t 48), (some (46, false)), 0⟩,
⟨some 50, .mv (.t 5), (some (46, false)), 0⟩,
⟨some 51, .bin .lss (.t 49) (.t 50), (some (46, false)), 0⟩,
oo 52 (.pick (.t 46) (.k (.d (.b true))) (.t 51)),
oo 43 (.mv (.t 52))]) (
.cond (.t 43) (
.seq (.region false [
oo 53 (.call 283 [(.k (.d (.i .i64 1)))] 0 true),
⟨none, .st 4 (.t 4) (.t 53), none, 0⟩]) (
.ret)) (.seq (.region false [
oo 55 (.fa 0 (.t 3)),
oo 56 (.ld false 1 (.t 55)),
oo 57 (.bin .eql (.t 56) (.k (.d (.i .i64 0)))),
oo 54 (.mv (.t 57))]) (
.cond (.t 54) (
.region false [
oo 58 (.fa 1 (.t 3)),
oo 59 (.ld true 4 (.t 58)),
⟨none, .st 4 (.t 4) (.t 59), none, 0⟩]) (.seq (.region false [
oo 61 (.fa 0 (.t 3)),
oo 62 (.ld false 1 (.t 61)),
oo 63 (.bin .eql (.t 62) (.k (.d (.i .i64 1)))),
oo 60 (.mv (.t 63))]) (
.cond (.t 60) (
.region false [
oo 64 (.ld true 2 (.t 2)),
oo 65 (.ld true 8 (.t 3)),
oo 66 (.call 284 [.t 64, .t 65] 0 true),
⟨none, .st 4 (.t 4) (.t 66), none, 0⟩]) (.seq (.region false [
oo 68 (.fa 0 (.t 3)),
oo 69 (.ld false 1 (.t 68)),
oo 70 (.bin .eql (.t 69) (.k (.d (.i .i64 2)))),
oo 71 (.mv (.t 70)),
⟨some 72, .fa 0 (.t 3), (some (71, false)), 0⟩,
⟨some 73, .ld false 1 (.t 72), (some (71, false)), 0⟩,
⟨some 74, .bin .eql (.t 73) (.k (.d (.i .i64 3))), (some (71, false)), 0⟩,
oo 75 (.pick (.t 71) (.k (.d (.b true))) (.t 74)),
oo 67 (.mv (.t 75))]) (
.cond (.t 67) (
.region false [
oo 76 (.ld true 2 (.t 2)),
oo 77 (.ld true 8 (.t 3)),
oo 78 (.call 285 [.t 76, .t 77] 0 true),
⟨none, .st 4 (.t 4) (.t 78), none, 0⟩]) (.seq (.region false [
oo 80 (.fa 0 (.t 3)),
oo 81 (.ld false 1 (.t 80)),
oo 82 (.bin .eql (.t 81) (.k (.d (.i .i64 12)))),
oo 79 (.mv (.t 82))]) (
.cond (.t 79) (
.region false [
oo 83 (.ld true 2 (.t 2)),
oo 84 (.ld true 8 (.t 3)),
oo 85 (.call 286 [.t 83, .t 84] 0 true),
⟨none, .st 4 (.t 4) (.t 85), none, 0⟩]) (.seq (.region false [
oo 14 (.fa 7 (.t 3)),
oo 15 (.ld false 1 (.t 14)),
oo 6 (.mv (.t 15))]) (
.seq (.seq (.region false [
oo 16 (.mv (.t 5)),
oo 17 (.bin .geq (.t 16) (.k (.d (.i .i64 0))))]) (
.cond (.t 17) (
.region false [
oo 18 (.mv (.t 6)),
oo 19 (.mv (.t 5)),
oo 20 (.slc 8 (.t 18) none (some (.t 19))),
oo 6 (.mv (.t 20))]) (.skip))) (
.seq (.region false [
oo 7 (.mv (.k (.nil 4)))]) (
.seq (.seq (.region false [
oo 21 (.mv (.t 6)),
oo 22 (.len 0 (.t 21)),
oo 23 (.mv (.k (.d (.i .i64 0))))]) (
.block 1 (.loop ⟨[2, 3, 4, 7, 21, 22, 23], [7], [], [], [(4, 3)], true⟩ (.seq (.region false [
oo 24 (.bin .lss (.t 23) (.t 22))]) (
.seq (.cond (.t 24) (
.skip) (.exit 1)) (
.seq (.block 2 (.seq (.region false [
oo 25 (.ia 8 (.t 21) (.t 23)),
oo 26 (.ld true 8 (.t 25)),
oo 9 (.zero (.agg [(.d (.i .i64 0)), (.d (.i .i64 0)), (.d (.i .i64 0)), (.d (.s [])), (.nil 4), (.d (.i .i64 0)), (.d (.i .i64 0)), (.nil 8)])),
⟨none, .st 8 (.t 9) (.t 26), none, 0⟩]) (
.seq (.region false [
oo 27 (.ld true 2 (.t 2)),
oo 28 (.ld true 8 (.t 9)),
oo 29 (.call 277 [.t 27, .t 28] 0 true),
oo 10 (.zero (.agg [(.d (.i .i64 0)), (.d (.i .i64 0)), (.d (.s [])), (.nil 4)])),
⟨none, .st 4 (.t 10) (.t 29), none, 0⟩]) (
.seq (.seq (.region false [
oo 30 (.fa 0 (.t 10)),
oo 31 (.ld false 1 (.t 30)),
oo 32 (.bin .eql (.t 31) (.k (.d (.i .i64 7))))]) (
.cond (.t 32) (
.seq (.region false [
oo 33 (.ld true 4 (.t 10)),
⟨none, .st 4 (.t 4) (.t 33), none, 0⟩]) (
.ret)) (.skip))) (
.region false [
oo 34 (.mv (.t 7)),
oo 35 (.ld true 4 (.t 10)),
oo 36 (.bsl 4 1 [(.i .i64 0), (.i .i64 0), (.s []), (.l 4 [])] [(0, .t 35)]),
oo 37 (.app 4 56 (.t 34) (.t 36)),
oo 7 (.mv (.t 37))]))))) (
.region false [
oo 38 (.bin .add (.t 23) (.k (.d (.i .i64 1)))),
oo 23 (.mv (.t 38))]))))))) (
.region false [
oo 39 (.fa 0 (.t 3)),
oo 40 (.ld false 1 (.t 39)),
oo 41 (.mv (.t 7)),
oo 42 (.call 287 [.t 40, .t 41] 0 true),
⟨none, .st 4 (.t 4) (.t 42), none, 0⟩])))))))))))))))) (
.seq (.seq (.region false [
oo 86 (.ld true 4 (.t 4)),
oo 87 (.call 112 [.t 86] 0 true),
oo 88 (.bin .gtr (.t 87) (.k (.d (.i .i64 60))))]) (
.cond (.t 88) (
.seq (.region false [
oo 89 (.call 283 [(.k (.d (.i .i64 6)))] 0 true),
⟨none, .st 4 (.t 4) (.t 89), none, 0⟩]) (
.ret)) (.skip))) (
.seq (.region false [
oo 90 (.ld true 4 (.t 4)),
⟨none, .st 4 (.t 4) (.t 90), none, 0⟩]) (
.ret))))), [.cell 4 true 4]⟩
def n277 : Notes := { anns := [⟨[2, 3, 4, 7, 21, 22, 23], [7], [], [], [(4, 3)], true⟩], frz := [], rgs := [] }
def c283 : CFn := ⟨.seq (.region false [
oo 2 (.zero (.agg [(.d (.i .i64 0)), (.d (.i .i64 0)), (.d (.s [])), (.nil 4)]))]) (
.seq (.region false [
oo 3 (.mv (.t 0)),
oo 4 (.build [(.d (.i .i64 0)), (.d (.i .i64 0)), (.d (.s [])), (.nil 4)] [(0, 1, (.k (.d (.i .i64 7)))), (1, 1, .t 3)]),
⟨none, .st 4 (.t 2) (.t 4), none, 0⟩]) (
.ret)), [.cell 2 true 4]⟩
def n283 : Notes := { anns := [], frz := [], rgs := [] }
def c284 : CFn := ⟨.seq (.region false [
oo 2 (.box (.t 0)),
oo 3 (.box (.t 1)),
oo 4 (.zero (.agg [(.d (.i .i64 0)), (.d (.i .i64 0)), (.d (.s [])), (.nil 4)]))]) (
.seq (.region false [
oo 10 (.fa 0 (.t 2)),
oo 11 (.ld false 1 (.t 10)),
oo 12 (.fa 5 (.t 3)),
oo 13 (.ld false 1 (.t 12)),
oo 14 (.call 292 [.t 11, .t 13] 0 true),
oo 9 (.mv (.t 14)),
oo 15 (.ext (.t 9) 0),
oo 16 (.ext (.t 9) 1),
oo 5 (.mv (.t 15)),
oo 6 (.mv (.t 16))]) (
.seq (.region false [
oo 18 (.mv (.t 5)),
oo 19 (.fa 6 (.t 3)),
oo 20 (.ld false 1 (.t 19)),
oo 21 (.call 293 [.t 18, .t 20] 0 true),
oo 17 (.mv (.t 21)),
oo 22 (.ext (.t 17) 0),
oo 23 (.ext (.t 17) 1),
oo 7 (.zero (.agg [(.d (.i .i64 0)), (.d (.i .i64 0)), (.d (.s [])), (.nil 4)])),
⟨none, .st 4 (.t 7) (.t 22), none, 0⟩,
oo 8 (.mv (.t 23))]) (
.seq (.seq (.region false [
oo 24 (.mv (.t 8)),
oo 25 (.un .not (.t 24))]) (
.cond (.t 25) (
.seq (.region false [
oo 26 (.call 283 [(.k (.d (.i .i64 7)))] 0 true),
⟨none, .st 4 (.t 4) (.t 26), none, 0⟩]) (
.ret)) (.skip))) (
.seq (.region false [
oo 27 (.ld true 4 (.t 7)),
⟨none, .st 4 (.t 4) (.t 27), none, 0⟩]) (
.ret))))), [.cell 4 true 4]⟩
def n284 : Notes := { anns := [], frz := [], rgs := [] }
def c285 : CFn := ⟨.seq (.region false [
oo 2 (.box (.t 0)),
oo 3 (.box (.t 1)),
oo 4 (.zero (.agg [(.d (.i .i64 0)), (.d (.i .i64 0)), (.d (.s [])), (.nil 4)]))]) (
.seq (.region false [
oo 10 (.fa 1 (.t 2)),
oo 11 (.ld false 1 (.t 10)),
oo 12 (.fa 5 (.t 3)),
oo 13 (.ld false 1 (.t 12)),
oo 14 (.call 294 [.t 11, .t 13] 0 true),
oo 9 (.mv (.t 14)),
oo 15 (.ext (.t 9) 0),
oo 16 (.ext (.t 9) 1),
oo 5 (.mv (.t 15)),
oo 6 (.mv (.t 16))]) (
.seq (.block 0 (.seq (.region false [
oo 18 (.mv (.t 6)),
oo 19 (.un .not (.t 18)),
oo 17 (.mv (.t 19))]) (
.cond (.t 17) (
.seq (.region false [
oo 20 (.call 283 [(.k (.d (.i .i64 7)))] 0 true),
⟨none, .st 4 (.t 4) (.t 20), none, 0⟩]) (
.ret)) (.seq (.region false [
oo 22 (.fa 0 (.t 3)),
oo 23 (.ld false 1 (.t 22)),
oo 24 (.bin .eql (.t 23) (.k (.d (.i .i64 2)))),
oo 21 (.mv (.t 24))]) (
.cond (.t 21) (
.seq (.region false [
oo 25 (.mv (.t 5)),
oo 26 (.build [(.d (.i .i64 0)), (.d (.i .i64 0)), (.d (.s [])), (.nil 4)] [(0, 1, (.k (.d (.i .i64 3)))), (2, 1, .t 25)]),
⟨none, .st 4 (.t 4) (.t 26), none, 0⟩]) (
.ret)) (.seq (.region false [
oo 28 (.mv (.t 5)),
oo 29 (.len 1 (.t 28)),
oo 30 (.bin .lss (.t 29) (.k (.d (.i .i64 1)))),
oo 31 (.mv (.t 30)),
⟨some 32, .mv (.t 5), (some (31, false)), 0⟩,
⟨some 33, .len 1 (.t 32), (some (31, false)), 0⟩,
⟨some 34, .bin .gtr (.t 33) (.k (.d (.i .i64 18))), (some (31, false)), 0⟩,
oo 35 (.pick (.t 31) (.k (.d (.b true))) (.t 34)),
oo 36 (.mv (.t 35)),
⟨some 37, .mv (.t 5), (some (36, false)), 0⟩,
⟨some 38, .call 295 [.t 37, (.k (.d (.s [48, 49, 50, 51, 52, 53, 54, 55, 56, 57])))] 0 true, (some (36, false)), 0⟩,
⟨some 39, .bin .neq (.t 38) (.k (.d (.s []))), (some (36, false)), 0⟩,
oo 40 (.pick (.t 36) (.k (.d (.b true))) (.t 39)),
oo 27 (.mv (.t 40))]) (
.cond (.t 27) (
.seq (.region false [
oo 41 (.call 283 [(.k (.d (.i .i64 2)))] 0 true),
⟨none, .st 4 (.t 4) (.t 41), none, 0⟩]) (
.ret)) (.skip)))))))) (
.seq (.region false [
oo 43 (.mv (.t 5)),
oo 44 (.call 296 [.t 43, (.k (.d (.i .i64 10))), (.k (.d (.i .i64 64)))] 0 true),
oo 42 (.mv (.t 44)),
oo 45 (.ext (.t 42) 0),
oo 46 (.ext (.t 42) 1),
oo 7 (.mv (.t 45)),
oo 8 (.mv (.t 46))]) (
.seq (.region false [
oo 47 (.mv (.t 7)),
oo 48 (.build [(.d (.i .i64 0)), (.d (.i .i64 0)), (.d (.s [])), (.nil 4)] [(0, 1, (.k (.d (.i .i64 1)))), (1, 1, .t 47)]),
⟨none, .st 4 (.t 4) (.t 48), none, 0⟩]) (
.ret))))), [.cell 4 true 4]⟩
def n285 : Notes := { anns := [], frz := [], rgs := [] }
def c286 : CFn := ⟨.seq (.region false [
oo 2 (.box (.t 0)),
oo 3 (.box (.t 1)),
oo 4 (.zero (.agg [(.d (.i .i64 0)), (.d (.i .i64 0)), (.d (.s [])), (.nil 4)]))]) (
.seq (.seq (.region true [
oo 6 (.ld true 2 (.t 2)),
oo 7 (.fa 7 (.t 3)),
⟨some 8, .ld false 1 (.t 7), none, 2⟩,
⟨some 9, .ia 8 (.t 8) (.k (.d (.i .i64 0))), none, 6⟩,
⟨some 10, .ld true 8 (.t 9), none, 14⟩,
⟨some 11, .call 277 [.t 6, .t 10] 0 true, none, 31⟩,
oo 5 (.zero (.agg [(.d (.i .i64 0)), (.d (.i .i64 0)), (.d (.s [])), (.nil 4)])),
⟨none, .st 4 (.t 5) (.t 11), none, 127⟩]) (
.block 0 (.seq (.region false [
oo 13 (.fa 0 (.t 5)),
oo 14 (.ld false 1 (.t 13)),
oo 15 (.bin .eql (.t 14) (.k (.d (.i .i64 7)))),
oo 12 (.mv (.t 15))]) (
.cond (.t 12) (
.seq (.region false [
oo 16 (.ld true 4 (.t 5)),
⟨none, .st 4 (.t 4) (.t 16), none, 0⟩]) (
.ret)) (.seq (.region false [
oo 18 (.fa 0 (.t 5)),
oo 19 (.ld false 1 (.t 18)),
oo 20 (.bin .neq (.t 19) (.k (.d (.i .i64 2)))),
oo 17 (.mv (.t 20))]) (
.cond (.t 17) (
.seq (.region false [
oo 21 (.call 283 [(.k (.d (.i .i64 4)))] 0 true),
⟨none, .st 4 (.t 4) (.t 21), none, 0⟩]) (
.ret)) (.seq (.region false [
oo 23 (.fa 1 (.t 5)),
oo 24 (.ld false 1 (.t 23)),
oo 25 (.bin .neq (.t 24) (.k (.d (.i .i64 0)))),
oo 22 (.mv (.t 25))]) (
.cond (.t 22) (
.seq (.region true [
oo 26 (.ld true 2 (.t 2)),
oo 27 (.fa 7 (.t 3)),
⟨some 28, .ld false 1 (.t 27), none, 2⟩,
⟨some 29, .ia 8 (.t 28) (.k (.d (.i .i64 1))), none, 6⟩,
⟨some 30, .ld true 8 (.t 29), none, 14⟩,
⟨some 31, .call 277 [.t 26, .t 30] 0 true, none, 31⟩,
⟨none, .st 4 (.t 4) (.t 31), none, 63⟩]) (
.ret)) (.skip))))))))) (
.seq (.region true [
oo 32 (.ld true 2 (.t 2)),
oo 33 (.fa 7 (.t 3)),
⟨some 34, .ld false 1 (.t 33), none, 2⟩,
⟨some 35, .ia 8 (.t 34) (.k (.d (.i .i64 2))), none, 6⟩,
⟨some 36, .ld true 8 (.t 35), none, 14⟩,
⟨some 37, .call 277 [.t 32, .t 36] 0 true, none, 31⟩,
⟨none, .st 4 (.t 4) (.t 37), none, 63⟩]) (
.ret))), [.cell 4 true 4]⟩
def n286 : Notes := { anns := [], frz := [], rgs := [] }
def c287 : CFn := ⟨.seq (.region false [
oo 4 (.zero (.agg [(.d (.i .i64 0)), (.d (.i .i64 0)), (.d (.s [])), (.nil 4)]))]) (
.seq (.seq (.region false [
oo 5 (.mv (.t 0))]) (
.block 0 (.seq (.seq (.region false [
oo 7 (.bin .eql (.t 5) (.k (.d (.i .i64 4)))),
oo 6 (.mv (.t 7))]) (
.cond (.t 6) (
.skip) (.seq (.region false [
oo 8 (.bin .eql (.t 5) (.k (.d (.i .i64 5)))),
oo 6 (.mv (.t 8))]) (
.cond (.t 6) (
.skip) (.region false [
oo 9 (.bin .eql (.t 5) (.k (.d (.i .i64 6)))),
oo 6 (.mv (.t 9))]))))) (
.cond (.t 6) (
.seq (.seq (.region false [
oo 10 (.mv (.t 1)),
oo 11 (.bsl 1 2 [(.i .i64 0)] [(0, (.k (.d (.i .i64 1)))), (1, (.k (.d (.i .i64 1))))]),
oo 12 (.call 297 [.t 10, .t 11] 0 true),
oo 13 (.un .not (.t 12))]) (
.cond (.t 13) (
.seq (.region false [
oo 14 (.call 283 [(.k (.d (.i .i64 4)))] 0 true),
⟨none, .st 4 (.t 4) (.t 14), none, 0⟩]) (
.ret)) (.skip))) (
.seq (.region true [
oo 15 (.mv (.t 0)),
oo 16 (.mv (.t 1)),
⟨some 17, .ia 4 (.t 16) (.k (.d (.i .i64 0))), none, 2⟩,
⟨some 18, .fa 1 (.t 17), none, 6⟩,
⟨some 19, .ld false 1 (.t 18), none, 14⟩,
oo 20 (.mv (.t 1)),
⟨some 21, .ia 4 (.t 20) (.k (.d (.i .i64 1))), none, 32⟩,
⟨some 22, .fa 1 (.t 21), none, 96⟩,
⟨some 23, .ld false 1 (.t 22), none, 224⟩,
⟨some 24, .call 298 [.t 15, .t 19, .t 23] 0 true, none, 511⟩,
⟨none, .st 4 (.t 4) (.t 24), none, 1023⟩]) (
.ret))) (.seq (.region false [
oo 26 (.bin .eql (.t 5) (.k (.d (.i .i64 7)))),
oo 25 (.mv (.t 26))]) (
.cond (.t 25) (
.seq (.region true [
oo 27 (.mv (.t 1)),
⟨some 28, .ia 4 (.t 27) (.k (.d (.i .i64 0))), none, 1⟩,
⟨some 29, .ld true 4 (.t 28), none, 3⟩,
oo 30 (.mv (.t 1)),
⟨some 31, .ia 4 (.t 30) (.k (.d (.i .i64 1))), none, 8⟩,
⟨some 32, .ld true 4 (.t 31), none, 24⟩,
⟨some 33, .call 114 [.t 29, .t 32] 0 true, none, 63⟩,
⟨some 34, .bin .eql (.t 33) (.k (.d (.i .i64 0))), none, 127⟩,
⟨some 35, .call 299 [.t 34] 0 true, none, 255⟩,
⟨none, .st 4 (.t 4) (.t 35), none, 511⟩]) (
.ret)) (.seq (.region false [
oo 37 (.bin .eql (.t 5) (.k (.d (.i .i64 8)))),
oo 36 (.mv (.t 37))]) (
.cond (.t 36) (
.seq (.region true [
oo 38 (.mv (.t 1)),
⟨some 39, .ia 4 (.t 38) (.k (.d (.i .i64 0))), none, 1⟩,
⟨some 40, .ld true 4 (.t 39), none, 3⟩,
oo 41 (.mv (.t 1)),
⟨some 42, .ia 4 (.t 41) (.k (.d (.i .i64 1))), none, 8⟩,
⟨some 43, .ld true 4 (.t 42), none, 24⟩,
⟨some 44, .call 114 [.t 40, .t 43] 0 true, none, 63⟩,
⟨some 45, .bin .lss (.t 44) (.k (.d (.i .i64 0))), none, 127⟩,
⟨some 46, .call 299 [.t 45] 0 true, none, 255⟩,
⟨none, .st 4 (.t 4) (.t 46), none, 511⟩]) (
.ret)) (.seq (.seq (.region false [
oo 48 (.bin .eql (.t 5) (.k (.d (.i .i64 9)))),
oo 47 (.mv (.t 48))]) (
.cond (.t 47) (
.skip) (.seq (.region false [
oo 49 (.bin .eql (.t 5) (.k (.d (.i .i64 10)))),
oo 47 (.mv (.t 49))]) (
.cond (.t 47) (
.skip) (.region false [
oo 50 (.bin .eql (.t 5) (.k (.d (.i .i64 11)))),
oo 47 (.mv (.t 50))]))))) (
.cond (.t 47) (
.seq (.region false [
oo 51 (.mv (.t 0)),
oo 52 (.mv (.t 1)),
oo 53 (.call 300 [.t 51, .t 52] 0 true),
⟨none, .st 4 (.t 4) (.t 53), none, 0⟩]) (
.ret)) (.seq (.region false [
oo 55 (.bin .eql (.t 5) (.k (.d (.i .i64 13)))),
oo 54 (.mv (.t 55))]) (
.cond (.t 54) (
.seq (.region true [
oo 56 (.mv (.t 1)),
⟨some 57, .ia 4 (.t 56) (.k (.d (.i .i64 0))), none, 1⟩,
⟨some 58, .ld true 4 (.t 57), none, 3⟩,
oo 59 (.mv (.t 1)),
⟨some 60, .ia 4 (.t 59) (.k (.d (.i .i64 1))), none, 8⟩,
⟨some 61, .ld true 4 (.t 60), none, 24⟩,
⟨some 62, .call 301 [.t 58, .t 61] 0 true, none, 63⟩,
⟨none, .st 4 (.t 4) (.t 62), none, 127⟩]) (
.ret)) (.seq (.region false [
oo 64 (.bin .eql (.t 5) (.k (.d (.i .i64 14)))),
oo 63 (.mv (.t 64))]) (
.cond (.t 63) (
.seq (.region false [
oo 65 (.mv (.t 1)),
oo 66 (.build [(.d (.i .i64 0)), (.d (.i .i64 0)), (.d (.s [])), (.nil 4)] [(0, 1, (.k (.d (.i .i64 4)))), (3, 1, .t 65)]),
⟨none, .st 4 (.t 4) (.t 66), none, 0⟩]) (
.ret)) (.seq (.region false [
oo 68 (.bin .eql (.t 5) (.k (.d (.i .i64 15)))),
oo 67 (.mv (.t 68))]) (
.cond (.t 67) (
.seq (.region false [
oo 69 (.mv (.t 1)),
oo 70 (.ia 4 (.t 69) (.k (.d (.i .i64 0)))),
oo 71 (.ld true 4 (.t 70)),
oo 72 (.call 302 [.t 71] 0 true),
⟨none, .st 4 (.t 4) (.t 72), none, 0⟩]) (
.ret)) (.seq (.seq (.region false [
oo 74 (.bin .eql (.t 5) (.k (.d (.i .i64 16)))),
oo 73 (.mv (.t 74))]) (
.cond (.t 73) (
.skip) (.seq (.region false [
oo 75 (.bin .eql (.t 5) (.k (.d (.i .i64 17)))),
oo 73 (.mv (.t 75))]) (
.cond (.t 73) (
.skip) (.region false [
oo 76 (.bin .eql (.t 5) (.k (.d (.i .i64 18)))),
oo 73 (.mv (.t 76))]))))) (
.cond (.t 73) (
.seq (.region false [
oo 77 (.mv (.t 0)),
oo 78 (.mv (.t 1)),
oo 79 (.call 303 [.t 77, .t 78] 0 true),
⟨none, .st 4 (.t 4) (.t 79), none, 0⟩]) (
.ret)) (.seq (.region false [
oo 81 (.bin .eql (.t 5) (.k (.d (.i .i64 21)))),
oo 80 (.mv (.t 81))]) (
.cond (.t 80) (
.seq (.region false [
oo 82 (.build [(.d (.i .i64 0)), (.d (.i .i64 0)), (.d (.s [])), (.nil 4)] [(0, 1, (.k (.d (.i .i64 5))))]),
⟨none, .st 4 (.t 4) (.t 82), none, 0⟩]) (
.ret)) (.seq (.region false [
oo 84 (.bin .eql (.t 5) (.k (.d (.i .i64 22)))),
oo 83 (.mv (.t 84))]) (
.cond (.t 83) (
.seq (.region false [
oo 85 (.build [(.d (.i .i64 0)), (.d (.i .i64 0)), (.d (.s [])), (.nil 4)] [(0, 1, (.k (.d (.i .i64 6))))]),
⟨none, .st 4 (.t 4) (.t 85), none, 0⟩]) (
.ret)) (.skip))))))))))))))))))))))) (
.seq (.region true [
oo 86 (.mv (.t 0)),
oo 87 (.mv (.t 1)),
⟨some 88, .ia 4 (.t 87) (.k (.d (.i .i64 0))), none, 2⟩,
⟨some 89, .ld true 4 (.t 88), none, 6⟩,
oo 90 (.mv (.t 1)),
⟨some 91, .ia 4 (.t 90) (.k (.d (.i .i64 1))), none, 16⟩,
⟨some 92, .ld true 4 (.t 91), none, 48⟩,
⟨some 93, .call 304 [.t 86, .t 89, .t 92] 0 true, none, 127⟩,
⟨none, .st 4 (.t 4) (.t 93), none, 255⟩]) (
.ret))), [.cell 4 true 4]⟩
def n287 : Notes := { anns := [], frz := [], rgs := [] }
def c292 : CFn := ⟨.seq (.region false [
oo 4 (.mv (.k (.nil 4))),
oo 5 (.mv (.k (.d (.b false))))]) (
.seq (.seq (.region false [
oo 6 (.mv (.t 1)),
oo 7 (.bin .lss (.t 6) (.k (.d (.i .i64 0)))),
oo 8 (.mv (.t 7)),
⟨some 9, .mv (.t 1), (some (8, false)), 0⟩,
⟨some 10, .mv (.t 0), (some (8, false)), 0⟩,
⟨some 11, .len 0 (.t 10), (some (8, false)), 0⟩,
⟨some 12, .bin .geq (.t 9) (.t 11), (some (8, false)), 0⟩,
oo 13 (.pick (.t 8) (.k (.d (.b true))) (.t 12))]) (
.cond (.t 13) (
.seq (.region false [
oo 14 (.mv (.t 4)),
oo 4 (.mv (.t 14)),
oo 5 (.mv (.k (.d (.b false))))]) (
.ret)) (.skip))) (
.seq (.region false [
oo 15 (.mv (.t 0)),
oo 16 (.mv (.t 1)),
oo 17 (.ia 1 (.t 15) (.t 16)),
oo 18 (.ld false 1 (.t 17)),
oo 4 (.mv (.t 18)),
oo 5 (.mv (.k (.d (.b true))))]) (
.ret))), [.slot 4, .slot 5]⟩
def n292 : Notes := { anns := [], frz := [], rgs := [] }
def c293 : CFn := ⟨.seq (.region false [
oo 4 (.zero (.agg [(.d (.i .i64 0)), (.d (.i .i64 0)), (.d (.s [])), (.nil 4)])),
oo 5 (.mv (.k (.d (.b false))))]) (
.seq (.seq (.region false [
oo 6 (.mv (.t 1)),
oo 7 (.bin .lss (.t 6) (.k (.d (.i .i64 0)))),
oo 8 (.mv (.t 7)),
⟨some 9, .mv (.t 1), (some (8, false)), 0⟩,
⟨some 10, .mv (.t 0), (some (8, false)), 0⟩,
⟨some 11, .len 0 (.t 10), (some (8, false)), 0⟩,
⟨some 12, .bin .geq (.t 9) (.t 11), (some (8, false)), 0⟩,
oo 13 (.pick (.t 8) (.k (.d (.b true))) (.t 12))]) (
.cond (.t 13) (
.seq (.region false [
oo 14 (.ld true 4 (.t 4)),
⟨none, .st 4 (.t 4) (.t 14), none, 0⟩,
oo 5 (.mv (.k (.d (.b false))))]) (
.ret)) (.skip))) (
.seq (.region false [
oo 15 (.mv (.t 0)),
oo 16 (.mv (.t 1)),
oo 17 (.ia 4 (.t 15) (.t 16)),
oo 18 (.ld true 4 (.t 17)),
⟨none, .st 4 (.t 4) (.t 18), none, 0⟩,
oo 5 (.mv (.k (.d (.b true))))]) (
.ret))), [.cell 4 true 4, .slot 5]⟩
def n293 : Notes := { anns := [], frz := [], rgs := [] }
def c294 : CFn := ⟨.seq (.region false [
oo 4 (.mv (.k (.d (.s [])))),
oo 5 (.mv (.k (.d (.b false))))]) (
.seq (.seq (.region false [
oo 6 (.mv (.t 1)),
oo 7 (.bin .lss (.t 6) (.k (.d (.i .i64 0)))),
oo 8 (.mv (.t 7)),
⟨some 9, .mv (.t 1), (some (8, false)), 0⟩,
⟨some 10, .mv (.t 0), (some (8, false)), 0⟩,
⟨some 11, .len 0 (.t 10), (some (8, false)), 0⟩,
⟨some 12, .bin .geq (.t 9) (.t 11), (some (8, false)), 0⟩,
oo 13 (.pick (.t 8) (.k (.d (.b true))) (.t 12))]) (
.cond (.t 13) (
.seq (.region false [
oo 14 (.mv (.t 4)),
oo 4 (.mv (.t 14)),
oo 5 (.mv (.k (.d (.b false))))]) (
.ret)) (.skip))) (
.seq (.region false [
oo 15 (.mv (.t 0)),
oo 16 (.mv (.t 1)),
oo 17 (.ia 1 (.t 15) (.t 16)),
oo 18 (.ld false 1 (.t 17)),
oo 4 (.mv (.t 18)),
oo 5 (.mv (.k (.d (.b true))))]) (
.ret))), [.slot 4, .slot 5]⟩
def n294 : Notes := { anns := [], frz := [], rgs := [] }
def c297 : CFn := ⟨.seq (.region false [
oo 4 (.mv (.k (.d (.b false))))]) (
.seq (.seq (.region false [
oo 7 (.mv (.t 1)),
oo 8 (.len 0 (.t 7)),
oo 9 (.mv (.k (.d (.i .i64 0))))]) (
.block 0 (.loop ⟨[0, 7, 8, 9], [], [], [], [], true⟩ (.seq (.region false [
oo 10 (.bin .lss (.t 9) (.t 8))]) (
.seq (.cond (.t 10) (
.skip) (.exit 0)) (
.seq (.block 1 (.seq (.region false [
oo 11 (.mv (.t 9)),
oo 12 (.ia 1 (.t 7) (.t 9)),
oo 13 (.ld false 1 (.t 12)),
oo 5 (.mv (.t 11)),
oo 6 (.mv (.t 13))]) (
.seq (.region false [
oo 14 (.mv (.t 0)),
oo 15 (.mv (.t 5)),
oo 16 (.ia 4 (.t 14) (.t 15)),
oo 17 (.fa 0 (.t 16)),
oo 18 (.ld false 1 (.t 17)),
oo 19 (.mv (.t 6)),
oo 20 (.bin .neq (.t 18) (.t 19))]) (
.cond (.t 20) (
.seq (.region false [
oo 4 (.mv (.k (.d (.b false))))]) (
.ret)) (.skip))))) (
.region false [
oo 21 (.bin .add (.t 9) (.k (.d (.i .i64 1)))),
oo 9 (.mv (.t 21))]))))))) (
.seq (.region false [
oo 4 (.mv (.k (.d (.b true))))]) (
.ret))), [.slot 4]⟩
def n297 : Notes := { anns := [⟨[0, 7, 8, 9], [], [], [], [], true⟩], frz := [], rgs := [] }
def c298 : CFn := ⟨.seq (.region false [
oo 6 (.zero (.agg [(.d (.i .i64 0)), (.d (.i .i64 0)), (.d (.s [])), (.nil 4)]))]) (
.seq (.region false [
oo 7 (.mv (.k (.d (.i .i64 0)))),
oo 8 (.mv (.k (.d (.b false))))]) (
.seq (.seq (.region false [
oo 9 (.mv (.t 0))]) (
.block 0 (.seq (.region false [
oo 11 (.bin .eql (.t 9) (.k (.d (.i .i64 4)))),
oo 10 (.mv (.t 11))]) (
.cond (.t 10) (
.seq (.region false [
oo 12 (.mv (.t 1)),
oo 13 (.mv (.t 2)),
oo 14 (.bin .add (.t 12) (.t 13)),
oo 7 (.mv (.t 14))]) (
.region false [
oo 15 (.mv (.t 1)),
oo 16 (.mv (.t 7)),
oo 17 (.bin .xor (.t 15) (.t 16)),
oo 18 (.mv (.t 2)),
oo 19 (.mv (.t 7)),
oo 20 (.bin .xor (.t 18) (.t 19)),
oo 21 (.bin .and (.t 17) (.t 20)),
oo 22 (.bin .lss (.t 21) (.k (.d (.i .i64 0)))),
oo 8 (.mv (.t 22))])) (.seq (.region false [
oo 24 (.bin .eql (.t 9) (.k (.d (.i .i64 5)))),
oo 23 (.mv (.t 24))]) (
.cond (.t 23) (
.seq (.region false [
oo 25 (.mv (.t 1)),
oo 26 (.mv (.t 2)),
oo 27 (.bin .sub (.t 25) (.t 26)),
oo 7 (.mv (.t 27))]) (
.region false [
oo 28 (.mv (.t 1)),
oo 29 (.mv (.t 2)),
oo 30 (.bin .xor (.t 28) (.t 29)),
oo 31 (.mv (.t 1)),
oo 32 (.mv (.t 7)),
oo 33 (.bin .xor (.t 31) (.t 32)),
oo 34 (.bin .and (.t 30) (.t 33)),
oo 35 (.bin .lss (.t 34) (.k (.d (.i .i64 0)))),
oo 8 (.mv (.t 35))])) (.seq (.region false [
oo 37 (.bin .eql (.t 9) (.k (.d (.i .i64 6)))),
oo 36 (.mv (.t 37))]) (
.cond (.t 36) (
.seq (.region false [
oo 38 (.mv (.t 1)),
oo 39 (.mv (.t 2)),
oo 40 (.bin .mul (.t 38) (.t 39)),
oo 7 (.mv (.t 40))]) (
.region false [
oo 41 (.mv (.t 1)),
oo 42 (.bin .neq (.t 41) (.k (.d (.i .i64 0)))),
oo 43 (.mv (.t 42)),
⟨some 44, .mv (.t 7), (some (43, true)), 0⟩,
⟨some 45, .mv (.t 1), (some (43, true)), 0⟩,
⟨some 46, .bin .quo (.t 44) (.t 45), (some (43, true)), 0⟩,
⟨some 47, .mv (.t 2), (some (43, true)), 0⟩,
⟨some 48, .bin .neq (.t 46) (.t 47), (some (43, true)), 0⟩,
⟨some 49, .mv (.t 48), (some (43, true)), 0⟩,
⟨some 50, .mv (.t 1), (some (49, false)), 0⟩,
⟨some 51, .bin .eql (.t 50) (.k (.d (.i .i64 (-1)))), (some (49, false)), 0⟩,
⟨some 52, .mv (.t 51), (some (49, false)), 0⟩,
⟨some 53, .mv (.t 2), (some (52, true)), 0⟩,
⟨some 54, .bin .eql (.t 53) (.k (.d (.i .i64 (-9223372036854775808)))), (some (52, true)), 0⟩,
⟨some 55, .pick (.t 52) (.t 54) (.k (.d (.b false))), (some (49, false)), 0⟩,
⟨some 56, .pick (.t 49) (.k (.d (.b true))) (.t 55), (some (43, true)), 0⟩,
oo 57 (.pick (.t 43) (.t 56) (.k (.d (.b false)))),
oo 8 (.mv (.t 57))])) (.skip))))))))) (
.seq (.seq (.region false [
oo 58 (.mv (.t 8))]) (
.cond (.t 58) (
.seq (.region false [
oo 59 (.call 283 [(.k (.d (.i .i64 5)))] 0 true),
⟨none, .st 4 (.t 6) (.t 59), none, 0⟩]) (
.ret)) (.skip))) (
.seq (.region false [
oo 60 (.mv (.t 7)),
oo 61 (.build [(.d (.i .i64 0)), (.d (.i .i64 0)), (.d (.s [])), (.nil 4)] [(0, 1, (.k (.d (.i .i64 1)))), (1, 1, .t 60)]),
⟨none, .st 4 (.t 6) (.t 61), none, 0⟩]) (
.ret))))), [.cell 6 true 4]⟩
def n298 : Notes := { anns := [], frz := [], rgs := [] }
def c299 : CFn := ⟨.seq (.region false [
oo 2 (.zero (.agg [(.d (.i .i64 0)), (.d (.i .i64 0)), (.d (.s [])), (.nil 4)]))]) (
.seq (.region false [
oo 4 (.build [(.d (.i .i64 0)), (.d (.i .i64 0)), (.d (.s [])), (.nil 4)] [(0, 1, (.k (.d (.i .i64 2))))]),
oo 3 (.zero (.agg [(.d (.i .i64 0)), (.d (.i .i64 0)), (.d (.s [])), (.nil 4)])),
⟨none, .st 4 (.t 3) (.t 4), none, 0⟩]) (
.seq (.seq (.region false [
oo 5 (.mv (.t 0))]) (
.cond (.t 5) (
.region false [
oo 6 (.fa 1 (.t 3)),
⟨none, .st 1 (.t 6) (.k (.d (.i .i64 1))), none, 0⟩]) (.skip))) (
.seq (.region false [
oo 7 (.ld true 4 (.t 3)),
⟨none, .st 4 (.t 2) (.t 7), none, 0⟩]) (
.ret)))), [.cell 2 true 4]⟩
def n299 : Notes := { anns := [], frz := [], rgs := [] }
def c300 : CFn := ⟨.seq (.region false [
oo 4 (.zero (.agg [(.d (.i .i64 0)), (.d (.i .i64 0)), (.d (.s [])), (.nil 4)]))]) (
.seq (.block 0 (.seq (.region false [
oo 6 (.mv (.t 1)),
oo 7 (.mv (.t 0)),
oo 8 (.call 236 [.t 7] 0 true),
oo 9 (.mm true [.t 8, (.k (.d (.i .i64 1)))]),
oo 10 (.slc 4 (.t 6) none (some (.t 9))),
oo 11 (.bsl 1 1 [(.i .i64 0)] [(0, (.k (.d (.i .i64 2))))]),
oo 12 (.call 297 [.t 10, .t 11] 0 true),
oo 13 (.un .not (.t 12)),
oo 14 (.mv (.t 13)),
⟨some 15, .mv (.t 0), (some (14, false)), 0⟩,
⟨some 16, .bin .neq (.t 15) (.k (.d (.i .i64 11))), (some (14, false)), 0⟩,
⟨some 17, .mv (.t 16), (some (14, false)), 0⟩,
⟨some 18, .mv (.t 1), (some (17, true)), 0⟩,
⟨some 19, .bsl 1 2 [(.i .i64 0)] [(0, (.k (.d (.i .i64 2)))), (1, (.k (.d (.i .i64 2))))], (some (17, true)), 0⟩,
⟨some 20, .call 297 [.t 18, .t 19] 0 true, (some (17, true)), 0⟩,
⟨some 21, .un .not (.t 20), (some (17, true)), 0⟩,
⟨some 22, .pick (.t 17) (.t 21) (.k (.d (.b false))), (some (14, false)), 0⟩,
oo 23 (.pick (.t 14) (.k (.d (.b true))) (.t 22)),
oo 5 (.mv (.t 23))]) (
.cond (.t 5) (
.seq (.region false [
oo 24 (.call 283 [(.k (.d (.i .i64 4)))] 0 true),
⟨none, .st 4 (.t 4) (.t 24), none, 0⟩]) (
.ret)) (.seq (.region false [
oo 26 (.mv (.t 0)),
oo 27 (.bin .eql (.t 26) (.k (.d (.i .i64 11)))),
oo 25 (.mv (.t 27))]) (
.cond (.t 25) (
.seq (.region false [
oo 28 (.mv (.t 1)),
oo 29 (.ia 4 (.t 28) (.k (.d (.i .i64 0)))),
oo 30 (.fa 1 (.t 29)),
oo 31 (.ld false 1 (.t 30)),
oo 32 (.bin .eql (.t 31) (.k (.d (.i .i64 0)))),
oo 33 (.call 299 [.t 32] 0 true),
⟨none, .st 4 (.t 4) (.t 33), none, 0⟩]) (
.ret)) (.seq (.region false [
oo 35 (.mv (.t 0)),
oo 36 (.bin .eql (.t 35) (.k (.d (.i .i64 9)))),
oo 34 (.mv (.t 36))]) (
.cond (.t 34) (
.seq (.region false [
oo 37 (.mv (.t 1)),
oo 38 (.ia 4 (.t 37) (.k (.d (.i .i64 0)))),
oo 39 (.fa 1 (.t 38)),
oo 40 (.ld false 1 (.t 39)),
oo 41 (.bin .neq (.t 40) (.k (.d (.i .i64 0)))),
oo 42 (.mv (.t 41)),
⟨some 43, .mv (.t 1), (some (42, true)), 0⟩,
⟨some 44, .ia 4 (.t 43) (.k (.d (.i .i64 1))), (some (42, true)), 0⟩,
⟨some 45, .fa 1 (.t 44), (some (42, true)), 0⟩,
⟨some 46, .ld false 1 (.t 45), (some (42, true)), 0⟩,
⟨some 47, .bin .neq (.t 46) (.k (.d (.i .i64 0))), (some (42, true)), 0⟩,
oo 48 (.pick (.t 42) (.t 47) (.k (.d (.b false)))),
oo 49 (.call 299 [.t 48] 0 true),
⟨none, .st 4 (.t 4) (.t 49), none, 0⟩]) (
.ret)) (.skip)))))))) (
.seq (.region false [
oo 50 (.mv (.t 1)),
oo 51 (.ia 4 (.t 50) (.k (.d (.i .i64 0)))),
oo 52 (.fa 1 (.t 51)),
oo 53 (.ld false 1 (.t 52)),
oo 54 (.bin .neq (.t 53) (.k (.d (.i .i64 0)))),
oo 55 (.mv (.t 54)),
⟨some 56, .mv (.t 1), (some (55, false)), 0⟩,
⟨some 57, .ia 4 (.t 56) (.k (.d (.i .i64 1))), (some (55, false)), 0⟩,
⟨some 58, .fa 1 (.t 57), (some (55, false)), 0⟩,
⟨some 59, .ld false 1 (.t 58), (some (55, false)), 0⟩,
⟨some 60, .bin .neq (.t 59) (.k (.d (.i .i64 0))), (some (55, false)), 0⟩,
oo 61 (.pick (.t 55) (.k (.d (.b true))) (.t 60)),
oo 62 (.call 299 [.t 61] 0 true),
⟨none, .st 4 (.t 4) (.t 62), none, 0⟩]) (
.ret))), [.cell 4 true 4]⟩
def n300 : Notes := { anns := [], frz := [], rgs := [] }
def c301 : CFn := ⟨.seq (.region false [
oo 2 (.box (.t 0)),
oo 3 (.box (.t 1)),
oo 4 (.zero (.agg [(.d (.i .i64 0)), (.d (.i .i64 0)), (.d (.s [])), (.nil 4)]))]) (
.seq (.seq (.region false [
oo 5 (.fa 0 (.t 2)),
oo 6 (.ld false 1 (.t 5)),
oo 7 (.fa 0 (.t 3)),
oo 8 (.ld false 1 (.t 7)),
oo 9 (.bin .neq (.t 6) (.t 8)),
oo 10 (.mv (.t 9)),
⟨some 11, .fa 0 (.t 2), (some (10, false)), 0⟩,
⟨some 12, .ld false 1 (.t 11), (some (10, false)), 0⟩,
⟨some 13, .bin .neq (.t 12) (.k (.d (.i .i64 3))), (some (10, false)), 0⟩,
⟨some 14, .mv (.t 13), (some (10, false)), 0⟩,
⟨some 15, .fa 0 (.t 2), (some (14, true)), 0⟩,
⟨some 16, .ld false 1 (.t 15), (some (14, true)), 0⟩,
⟨some 17, .bin .neq (.t 16) (.k (.d (.i .i64 4))), (some (14, true)), 0⟩,
⟨some 18, .pick (.t 14) (.t 17) (.k (.d (.b false))), (some (10, false)), 0⟩,
oo 19 (.pick (.t 10) (.k (.d (.b true))) (.t 18))]) (
.cond (.t 19) (
.seq (.region false [
oo 20 (.call 283 [(.k (.d (.i .i64 4)))] 0 true),
⟨none, .st 4 (.t 4) (.t 20), none, 0⟩]) (
.ret)) (.skip))) (
.seq (.region true [
oo 21 (.fa 0 (.t 2)),
⟨some 22, .ld false 1 (.t 21), none, 1⟩,
oo 23 (.fa 2 (.t 2)),
⟨some 24, .ld false 1 (.t 23), none, 4⟩,
oo 25 (.fa 2 (.t 3)),
⟨some 26, .ld false 1 (.t 25), none, 16⟩,
⟨some 27, .bin .add (.t 24) (.t 26), none, 60⟩,
oo 28 (.fa 3 (.t 2)),
⟨some 29, .ld false 1 (.t 28), none, 128⟩,
oo 30 (.fa 3 (.t 3)),
⟨some 31, .ld false 1 (.t 30), none, 512⟩,
⟨some 32, .bsl 1 2 [(.l 4 [])] [(0, .t 29), (1, .t 31)], none, 1920⟩,
⟨some 33, .call 314 [.t 32] 0 true, none, 3968⟩,
⟨some 34, .build [(.d (.i .i64 0)), (.d (.i .i64 0)), (.d (.s [])), (.nil 4)] [(0, 1, .t 22), (2, 1, .t 27), (3, 1, .t 33)], none, 8191⟩,
⟨none, .st 4 (.t 4) (.t 34), none, 16383⟩]) (
.ret))), [.cell 4 true 4]⟩
def n301 : Notes := { anns := [], frz := [], rgs := [] }
def c302 : CFn := ⟨.seq (.region false [
oo 1 (.box (.t 0)),
oo 2 (.zero (.agg [(.d (.i .i64 0)), (.d (.i .i64 0)), (.d (.s [])), (.nil 4)]))]) (
.seq (.seq (.region false [
oo 3 (.fa 0 (.t 1)),
oo 4 (.ld false 1 (.t 3))]) (
.block 0 (.seq (.region false [
oo 6 (.bin .eql (.t 4) (.k (.d (.i .i64 3)))),
oo 5 (.mv (.t 6))]) (
.cond (.t 5) (
.seq (.region false [
oo 7 (.fa 2 (.t 1)),
oo 8 (.ld false 1 (.t 7)),
oo 9 (.len 1 (.t 8)),
oo 10 (.build [(.d (.i .i64 0)), (.d (.i .i64 0)), (.d (.s [])), (.nil 4)] [(0, 1, (.k (.d (.i .i64 1)))), (1, 1, .t 9)]),
⟨none, .st 4 (.t 2) (.t 10), none, 0⟩]) (
.ret)) (.seq (.seq (.region false [
oo 12 (.bin .eql (.t 4) (.k (.d (.i .i64 4)))),
oo 11 (.mv (.t 12))]) (
.cond (.t 11) (
.skip) (.seq (.region false [
oo 13 (.bin .eql (.t 4) (.k (.d (.i .i64 5)))),
oo 11 (.mv (.t 13))]) (
.cond (.t 11) (
.skip) (.region false [
oo 14 (.bin .eql (.t 4) (.k (.d (.i .i64 6)))),
oo 11 (.mv (.t 14))]))))) (
.cond (.t 11) (
.seq (.region false [
oo 15 (.fa 3 (.t 1)),
oo 16 (.ld false 1 (.t 15)),
oo 17 (.len 0 (.t 16)),
oo 18 (.build [(.d (.i .i64 0)), (.d (.i .i64 0)), (.d (.s [])), (.nil 4)] [(0, 1, (.k (.d (.i .i64 1)))), (1, 1, .t 17)]),
⟨none, .st 4 (.t 2) (.t 18), none, 0⟩]) (
.ret)) (.skip))))))) (
.seq (.region false [
oo 19 (.call 283 [(.k (.d (.i .i64 4)))] 0 true),
⟨none, .st 4 (.t 2) (.t 19), none, 0⟩]) (
.ret))), [.cell 2 true 4]⟩
def n302 : Notes := { anns := [], frz := [], rgs := [] }
def c303 : CFn := ⟨.seq (.region false [
oo 4 (.zero (.agg [(.d (.i .i64 0)), (.d (.i .i64 0)), (.d (.s [])), (.nil 4)]))]) (
.seq (.seq (.region false [
oo 8 (.mv (.t 1)),
oo 9 (.bsl 1 2 [(.i .i64 0)] [(0, (.k (.d (.i .i64 6)))), (1, (.k (.d (.i .i64 3))))]),
oo 10 (.call 297 [.t 8, .t 9] 0 true),
oo 11 (.un .not (.t 10))]) (
.cond (.t 11) (
.seq (.region false [
oo 12 (.call 283 [(.k (.d (.i .i64 4)))] 0 true),
⟨none, .st 4 (.t 4) (.t 12), none, 0⟩]) (
.ret)) (.skip))) (
.seq (.region false [
oo 13 (.mv (.t 1)),
oo 14 (.ia 4 (.t 13) (.k (.d (.i .i64 0)))),
oo 15 (.fa 3 (.t 14)),
oo 16 (.ld false 1 (.t 15)),
oo 5 (.mv (.t 16))]) (
.seq (.region false [
oo 18 (.mv (.t 5)),
oo 19 (.mv (.t 1)),
oo 20 (.ia 4 (.t 19) (.k (.d (.i .i64 1)))),
oo 21 (.fa 2 (.t 20)),
oo 22 (.ld false 1 (.t 21)),
oo 23 (.call 119 [.t 18, .t 22] 0 true),
oo 17 (.mv (.t 23)),
oo 24 (.ext (.t 17) 0),
oo 25 (.ext (.t 17) 1),
oo 6 (.mv (.t 24)),
oo 7 (.mv (.t 25))]) (
.seq (.block 0 (.seq (.region false [
oo 27 (.mv (.t 0)),
oo 28 (.bin .eql (.t 27) (.k (.d (.i .i64 18)))),
oo 26 (.mv (.t 28))]) (
.cond (.t 26) (
.seq (.region false [
oo 29 (.mv (.t 7)),
oo 30 (.call 299 [.t 29] 0 true),
⟨none, .st 4 (.t 4) (.t 30), none, 0⟩]) (
.ret)) (.seq (.region false [
oo 32 (.mv (.t 0)),
oo 33 (.bin .eql (.t 32) (.k (.d (.i .i64 17)))),
oo 34 (.mv (.t 33)),
⟨some 35, .mv (.t 7), (some (34, true)), 0⟩,
oo 36 (.pick (.t 34) (.t 35) (.k (.d (.b false)))),
oo 37 (.mv (.t 36)),
⟨some 38, .mv (.t 5), (some (37, true)), 0⟩,
⟨some 39, .mv (.t 6), (some (37, true)), 0⟩,
⟨some 40, .ia 4 (.t 38) (.t 39), (some (37, true)), 0⟩,
⟨some 41, .fa 3 (.t 40), (some (37, true)), 0⟩,
⟨some 42, .ld false 1 (.t 41), (some (37, true)), 0⟩,
⟨some 43, .len 0 (.t 42), (some (37, true)), 0⟩,
⟨some 44, .bin .gtr (.t 43) (.k (.d (.i .i64 1))), (some (37, true)), 0⟩,
oo 45 (.pick (.t 37) (.t 44) (.k (.d (.b false)))),
oo 31 (.mv (.t 45))]) (
.cond (.t 31) (
.seq (.region false [
oo 46 (.mv (.t 5)),
oo 47 (.mv (.t 6)),
oo 48 (.ia 4 (.t 46) (.t 47)),
oo 49 (.fa 3 (.t 48)),
oo 50 (.ld false 1 (.t 49)),
oo 51 (.ia 4 (.t 50) (.k (.d (.i .i64 1)))),
oo 52 (.ld true 4 (.t 51)),
⟨none, .st 4 (.t 4) (.t 52), none, 0⟩]) (
.ret)) (.seq (.region false [
oo 54 (.mv (.t 0)),
oo 55 (.bin .eql (.t 54) (.k (.d (.i .i64 17)))),
oo 53 (.mv (.t 55))]) (
.cond (.t 53) (
.seq (.region false [
oo 56 (.call 283 [(.k (.d (.i .i64 7)))] 0 true),
⟨none, .st 4 (.t 4) (.t 56), none, 0⟩]) (
.ret)) (.skip)))))))) (
.seq (.region false [
oo 57 (.mv (.t 5)),
oo 58 (.call 146 [.t 57] 4 false),
oo 5 (.mv (.t 58))]) (
.seq (.seq (.region false [
oo 59 (.mv (.t 7))]) (
.cond (.t 59) (
.region false [
oo 60 (.mv (.t 5)),
oo 61 (.mv (.t 6)),
oo 62 (.mv (.t 6)),
oo 63 (.bin .add (.t 62) (.k (.d (.i .i64 1)))),
oo 64 (.call 315 [.t 60, .t 61, .t 63] 4 false),
oo 5 (.mv (.t 64))]) (.skip))) (
.seq (.region false [
oo 65 (.mv (.t 5)),
oo 66 (.mv (.t 6)),
oo 67 (.mv (.t 1)),
oo 68 (.slc 4 (.t 67) (some (.k (.d (.i .i64 1)))) (some (.k (.d (.i .i64 3))))),
oo 69 (.call 146 [.t 68] 0 true),
oo 70 (.build [(.d (.i .i64 0)), (.d (.i .i64 0)), (.d (.s [])), (.nil 4)] [(0, 1, (.k (.d (.i .i64 4)))), (3, 1, .t 69)]),
oo 71 (.bsl 4 1 [(.i .i64 0), (.i .i64 0), (.s []), (.l 4 [])] [(0, .t 70)]),
oo 72 (.call 134 [.t 65, .t 66, .t 71] 0 true),
oo 73 (.build [(.d (.i .i64 0)), (.d (.i .i64 0)), (.d (.s [])), (.nil 4)] [(0, 1, (.k (.d (.i .i64 6)))), (3, 1, .t 72)]),
⟨none, .st 4 (.t 4) (.t 73), none, 0⟩]) (
.ret)))))))), [.cell 4 true 4]⟩
def n303 : Notes := { anns := [], frz := [0, 0, 0, 0, 0, 0, 0, 0, 0, 0, 0, 0, 0, 0, 0, 0, 0, 0, 0, 0, 0, 0, 0, 0, 0, 0, 0, 0, 0, 0, 0, 0, 0, 0, 0, 0, 0, 0, 0, 0, 0, 0, 0, 0, 0, 0, 0, 0, 0, 0, 0, 0, 0, 0, 0, 0, 0, 0, 1, 0, 0, 0, 0, 0, 0, 1], rgs := [] }
def c304 : CFn := ⟨.seq (.region false [
oo 4 (.box (.t 1)),
oo 5 (.box (.t 2)),
oo 6 (.zero (.agg [(.d (.i .i64 0)), (.d (.i .i64 0)), (.d (.s [])), (.nil 4)]))]) (
.seq (.seq (.region false [
oo 8 (.fa 0 (.t 4)),
oo 9 (.ld false 1 (.t 8)),
oo 10 (.bin .neq (.t 9) (.k (.d (.i .i64 5))))]) (
.cond (.t 10) (
.seq (.region false [
oo 11 (.call 283 [(.k (.d (.i .i64 4)))] 0 true),
⟨none, .st 4 (.t 6) (.t 11), none, 0⟩]) (
.ret)) (.skip))) (
.seq (.region false [
oo 12 (.fa 3 (.t 4)),
oo 13 (.ld false 1 (.t 12)),
oo 14 (.ld true 4 (.t 5)),
oo 15 (.call 116 [.t 13, .t 14] 0 true),
oo 7 (.mv (.t 15))]) (
.seq (.seq (.region false [
oo 16 (.mv (.t 0)),
oo 17 (.bin .eql (.t 16) (.k (.d (.i .i64 20))))]) (
.cond (.t 17) (
.seq (.region false [
oo 18 (.mv (.t 7)),
oo 19 (.len 0 (.t 18)),
oo 20 (.fa 3 (.t 4)),
oo 21 (.ld false 1 (.t 20)),
oo 22 (.len 0 (.t 21)),
oo 23 (.bin .eql (.t 19) (.t 22)),
oo 24 (.call 299 [.t 23] 0 true),
⟨none, .st 4 (.t 6) (.t 24), none, 0⟩]) (
.ret)) (.skip))) (
.seq (.region false [
oo 25 (.mv (.t 7)),
oo 26 (.build [(.d (.i .i64 0)), (.d (.i .i64 0)), (.d (.s [])), (.nil 4)] [(0, 1, (.k (.d (.i .i64 5)))), (3, 1, .t 25)]),
⟨none, .st 4 (.t 6) (.t 26), none, 0⟩]) (
.ret))))), [.cell 6 true 4]⟩
def n304 : Notes := { anns := [], frz := [], rgs := [] }
def c314 : CFn := ⟨.seq (.region false [
oo 2 (.mv (.k (.nil 4)))]) (
.seq (.region false [
oo 3 (.mv (.k (.d (.i .i64 0))))]) (
.seq (.seq (.region false [
oo 9 (.mv (.t 0)),
oo 10 (.len 0 (.t 9)),
oo 11 (.mv (.k (.d (.i .i64 0))))]) (
.block 0 (.loop ⟨[0, 3, 9, 10, 11], [], [], [], [], false⟩ (.seq (.region false [
oo 12 (.bin .lss (.t 11) (.t 10))]) (
.seq (.cond (.t 12) (
.skip) (.exit 0)) (
.seq (.block 1 (.seq (.region false [
oo 13 (.ia 1 (.t 9) (.t 11)),
oo 14 (.ld false 1 (.t 13)),
oo 5 (.mv (.t 14))]) (
.seq (.region false [
oo 15 (.mv (.t 3)),
oo 16 (.mv (.t 5)),
oo 17 (.len 0 (.t 16)),
oo 18 (.bin .add (.t 15) (.t 17)),
oo 3 (.mv (.t 18))]) (
.seq (.region false [
oo 19 (.mv (.t 3)),
oo 20 (.bin .lss (.t 19) (.k (.d (.i .i64 0))))]) (
.cond (.t 20) (
.region false [
oo 21 (.die),
⟨none, .die, none, 0⟩]) (.skip)))))) (
.region false [
oo 22 (.bin .add (.t 11) (.k (.d (.i .i64 1)))),
oo 11 (.mv (.t 22))]))))))) (
.seq (.region false [
oo 23 (.mv (.t 3)),
oo 24 (.callr 325 [(.k (.nil 4)), (.t 23)] 4),
oo 6 (.mv (.t 24))]) (
.seq (.seq (.region false [
oo 25 (.mv (.t 0)),
oo 26 (.len 0 (.t 25)),
oo 27 (.mv (.k (.d (.i .i64 0))))]) (
.block 2 (.loop ⟨[6, 25, 26, 27], [], [], [], [], false⟩ (.seq (.region false [
oo 28 (.bin .lss (.t 27) (.t 26))]) (
.seq (.cond (.t 28) (
.skip) (.exit 2)) (
.seq (.block 3 (.seq (.region false [
oo 29 (.ia 1 (.t 25) (.t 27)),
oo 30 (.ld false 1 (.t 29)),
oo 8 (.mv (.t 30))]) (
.region false [
oo 31 (.mv (.t 6)),
oo 32 (.mv (.t 8)),
oo 33 (.apa 4 56 (.t 31) (.t 32)),
oo 6 (.mv (.t 33))]))) (
.region false [
oo 34 (.bin .add (.t 27) (.k (.d (.i .i64 1)))),
oo 27 (.mv (.t 34))]))))))) (
.seq (.region false [
oo 35 (.mv (.t 6)),
oo 2 (.mv (.t 35))]) (
.ret)))))), [.slot 2]⟩
def n314 : Notes := { anns := [⟨[0, 3, 9, 10, 11], [], [], [], [], false⟩, ⟨[6, 25, 26, 27], [], [], [], [], false⟩], frz := [0, 0, 0, 0, 0, 0, 0, 0, 0, 0, 0, 0, 0, 0, 0, 0, 0, 0, 0, 0, 0, 3, 0, 0, 0, 0, 0, 0, 0, 0, 0, 0, 1], rgs := [] }
def c325 : CFn := ⟨.seq (.region false [
oo 4 (.mv (.k (.nil 4)))]) (
.seq (.seq (.region false [
oo 5 (.mv (.t 1)),
oo 6 (.bin .lss (.t 5) (.k (.d (.i .i64 0))))]) (
.cond (.t 6) (
.region false [
oo 7 (.die),
⟨none, .die, none, 0⟩]) (.skip))) (
.seq (.seq (.region false [
oo 8 (.mv (.t 1)),
oo 9 (.mv (.t 0)),
oo 10 (.capn (.t 9)),
oo 11 (.mv (.t 0)),
oo 12 (.len 0 (.t 11)),
oo 13 (.bin .sub (.t 10) (.t 12)),
oo 14 (.bin .sub (.t 8) (.t 13)),
oo 1 (.mv (.t 14))]) (
.seq (.region false [
oo 15 (.mv (.t 1)),
oo 16 (.bin .gtr (.t 15) (.k (.d (.i .i64 0))))]) (
.cond (.t 16) (
.region false [
oo 17 (.mv (.t 0)),
oo 18 (.mv (.t 0)),
oo 19 (.capn (.t 18)),
oo 20 (.slc 4 (.t 17) none (some (.t 19))),
oo 21 (.mv (.t 1)),
oo 22 (.apz 4 56 [(.i .i64 0), (.i .i64 0), (.s []), (.l 4 [])] (.t 20) (.t 21)),
oo 23 (.mv (.t 0)),
oo 24 (.len 0 (.t 23)),
oo 25 (.slc 4 (.t 22) none (some (.t 24))),
oo 0 (.mv (.t 25))]) (.skip)))) (
.seq (.region false [
oo 26 (.mv (.t 0)),
oo 4 (.mv (.t 26))]) (
.ret)))), [.raw 4]⟩
def n325 : Notes := { anns := [], frz := [0, 0, 0, 0, 0, 0, 0, 0, 0, 0, 0, 0, 0, 0, 0, 0, 0, 0, 0, 0, 1], rgs := [], raw := true }
end Ab
