/-
 X: compiled functions: printed by a program of the workbench; the kernel checks each against the model's code.
-/
import Derived.Test.YtblhbdagpefloaaGreatDoorPack3
import Derived.Test.YtblhbdagpefloaaGreatDoorText0
set_option linter.unusedSimpArgs false
set_option linter.unusedVariables false
set_option linter.unusedSectionVars false
set_option linter.unnecessarySimpa false
namespace Ab
def zw4:CFn:=⟨sq ([
oo 2 (.box (.t 0)),
oo 4 (.mv (kb false))]) (
.seq (sq ([
om 6 1,
ob 7 .lss (.t 6) (ki 1),
om 8 7,
oh 9 (fa 3 2) 8,
oh 10 (.ld false 1 (.t 9)) 8,
oh 11 (.len 0 (.t 10)) 8,
oh 12 (.bin .gtr (.t 11) (ki 12)) 8,
oo 13 (.pick (.t 8) (kb true) (.t 12)),
om 14 13,
oh 15 (fa 2 2) 14,
oh 16 (.ld false 1 (.t 15)) 14,
oh 17 (.len 1 (.t 16)) 14,
oh 18 (.bin .gtr (.t 17) (ki 2000)) 14,
oo 19 (.pick (.t 14) (kb true) (.t 18))]) (
ct 19 (
sq ([
oo 4 (.mv (kb false))]) (
.ret)) (.skip))) (
.seq (sq ([
oo 5 (.mv (ki 0))]) (
.block 0 (.loop ⟨[1,2,5],[],[],[],[],true⟩ (.seq (sq ([
om 20 5,
oo 21 (fa 3 2),
ol 22 false 1 21,
oo 23 (.len 0 (.t 22)),
ob 24 .lss (.t 20) (.t 23)]) (
ct 24 (
.skip) (.exit 0))) (
.seq (.block 1 (sq ([
oo 27 (fa 3 2),
ol 28 false 1 27,
om 29 5,
oo 30 (.ia 4 (.t 28) (.t 29)),
ol 31 true 4 30,
om 32 1,
ob 33 .sub (.t 32) (ki 1),
oo 34 (.call 107 [.t 31,.t 33] 0 true),
oo 35 (.un .not (.t 34))]) (
ct 35 (
sq ([
oo 4 (.mv (kb false))]) (
.ret)) (.skip)))) (
.region false [
om 25 5,
ob 26 .add (.t 25) (ki 1),
om 5 26])))))) (
sq ([
oo 4 (.mv (kb true))]) (
.ret)))),[.slot 4]⟩
def Zku:Notes:={ anns:=[⟨[1,2,5],[],[],[],[],true⟩],frz:=[],rgs:=[] }
def Zaw:CFn:=⟨sq ([
oo 2 (.mv (.k (.d .np)))]) (
sq ([
om 3 0,
oo 4 (.build [(.nil 1),(.d (.i .i64 0))] [(0,1,.t 3)]),
oo 5 (.box (.t 4)),
om 2 5]) (
.ret)),[.slot 2]⟩
def Zkv:Notes:={ anns:=[],frz:=[],rgs:=[] }
def zvl:CFn:=⟨sq ([
oo 4 (.zero (.agg zV))]) (
.seq (sq ([
om 15 0,
oo 16 (.call 123 [.t 15,(ki 9)] 4 true),
om 5 16]) (
.block 0 (sq ([
om 18 5,
ob 19 .lss (.t 18) (ki 3),
om 17 19]) (
ct 17 (
sq ([
oo 20 (.bsl 1 7 [(.i .i64 0)] [(0,(ki 0)),(1,(ki 1)),(2,(ki 2)),(3,(.k (.d (.i .i64 (-1))))),(4,(ki 7)),(5,(ki 9223372036854775807)),(6,(.k (.d (.i .i64 (-9223372036854775808)))))]),
om 21 0,
oo 22 (.call 123 [.t 21,(ki 7)] 4 true),
oo 23 (.ia 1 (.t 20) (.t 22)),
ol 24 false 1 23,
oo 25 (.build zV [(0,1,(ki 1)),(1,1,.t 24)]),
oz (.st 4 (.t 4) (.t 25)) 0]) (
.ret)) (sq ([
om 27 5,
ob 28 .eql (.t 27) (ki 3),
om 26 28]) (
ct 26 (
sq ([
om 29 0,
oo 30 (.call 123 [.t 29,(ki 2)] 4 true),
oo 31 (.build zV [(0,1,(ki 2)),(1,1,.t 30)]),
oz (.st 4 (.t 4) (.t 31)) 0]) (
.ret)) (sq ([
om 33 5,
ob 34 .eql (.t 33) (ki 4),
om 35 34,
oh 36 (.mv (.t 1)) 35,
oh 37 (.bin .eql (.t 36) (ki 0)) 35,
oo 38 (.pick (.t 35) (kb true) (.t 37)),
om 32 38]) (
ct 32 (
sq ([
oo 39 (.bsl 1 5 [(.s [])] [(0,(.k (.d (.s [])))),(1,(.k (.d (.s [97])))),(2,(.k (.d (.s [98])))),(3,(.k (.d (.s [97,98])))),(4,(.k (.d (.s [97,45,116,101,120,116,45,111,102,45,50,49,45,98,121,116,101,115,45,120,120]))))]),
om 40 0,
oo 41 (.call 123 [.t 40,(ki 5)] 4 true),
oo 42 (.ia 1 (.t 39) (.t 41)),
ol 43 false 1 42,
oo 44 (.build zV [(0,1,(ki 3)),(2,1,.t 43)]),
oz (.st 4 (.t 4) (.t 44)) 0]) (
.ret)) (sq ([
om 46 5,
ob 47 .eql (.t 46) (ki 5),
om 45 47]) (
ct 45 (
sq ([
om 48 0,
om 49 1,
oo 50 (.call 124 [.t 48,.t 49] 4 true),
oo 51 (.build zV [(0,1,(ki 4)),(3,1,.t 50)]),
oz (.st 4 (.t 4) (.t 51)) 0]) (
.ret)) (sq ([
om 53 5,
ob 54 .eql (.t 53) (ki 6),
om 52 54]) (
ct 52 (
sq ([
oo 55 (.build zV [(0,1,(ki 5))]),
oo 6 (.zero (.agg zV)),
oz (.st 4 (.t 6) (.t 55)) 0]) (
sq ([
om 56 0,
om 57 1,
oo 58 (.call 124 [.t 56,.t 57] 4 true),
om 7 58]) (
.seq (sq ([
oo 8 (.mv (ki 0))]) (
.block 1 (.loop ⟨[4,6,7,8],[],[],[],[(6,3)],true⟩ (.seq (sq ([
om 59 8,
om 60 7,
oo 61 (.len 0 (.t 60)),
ob 62 .lss (.t 59) (.t 61)]) (
ct 62 (
.skip) (.exit 1))) (
.seq (.block 2 (.region true [
oo 65 (fa 3 6),
ow 66 (.ld false 1 (.t 65)) 1,
om 67 7,
om 68 8,
ow 69 (.ia 4 (.t 67) (.t 68)) 12,
ow 70 (.ld true 4 (.t 69)) 28,
ow 71 (.call 117 [.t 66,.t 70] 0 true) 63,
ow 72 (fa 3 6) 127,
oz (.st 1 (.t 72) (.t 71)) 255])) (
.region false [
om 63 8,
ob 64 .add (.t 63) (ki 1),
om 8 64])))))) (
sq ([
ol 73 true 4 6,
oz (.st 4 (.t 4) (.t 73)) 0]) (
.ret))))) (.skip))))))))))))) (
sq ([
oo 74 (.build zV [(0,1,(ki 6))]),
oo 9 (.zero (.agg zV)),
oz (.st 4 (.t 9) (.t 74)) 0]) (
.seq (sq ([
om 75 0,
oo 76 (.call 123 [.t 75,(ki 3)] 4 true),
om 10 76]) (
.block 3 (.loop ⟨[0,1,4,9,10],[],[],[],[(9,3)],true⟩ (.seq (sq ([
om 77 10,
ob 78 .gtr (.t 77) (ki 0)]) (
ct 78 (
.skip) (.exit 3))) (
.seq (.block 4 (sq ([
oo 81 (.bsl 1 3 [(.s [])] [(0,(.k (.d (.s [97])))),(1,(.k (.d (.s [98])))),(2,(.k (.d (.s [99]))))]),
om 82 0,
oo 83 (.call 123 [.t 82,(ki 3)] 4 true),
oo 84 (.ia 1 (.t 81) (.t 83)),
ol 85 false 1 84,
oo 86 (.build zV [(0,1,(ki 3)),(2,1,.t 85)]),
oo 11 (.zero (.agg zV)),
oz (.st 4 (.t 11) (.t 86)) 0]) (
sq ([
oo 88 (fa 3 9),
ol 89 false 1 88,
oo 90 (fa 2 11),
ol 91 false 1 90,
oo 92 (.call 120 [.t 89,.t 91] 0 true),
om 87 92,
oo 93 (.ext (.t 87) 0),
oo 94 (.ext (.t 87) 1),
om 12 93,
om 13 94]) (
sq ([
om 95 13,
oo 96 (.un .not (.t 95))]) (
ct 96 (
.seq (.region true [
ol 97 true 4 11,
om 98 0,
om 99 1,
ow 100 (.bin .sub (.t 99) (ki 1)) 4,
ow 101 (.call 109 [.t 98,.t 100] 4 true) 14,
ow 102 (.bsl 4 2 [(.i .i64 0),(.i .i64 0),(.s []),(.l 4 [])] [(0,.t 97),(1,.t 101)]) 31,
ow 103 (.build zV [(0,1,(ki 4)),(3,1,.t 102)]) 63,
oo 14 (.zero (.agg zV)),
oz (.st 4 (.t 14) (.t 103)) 255]) (
.region true [
oo 104 (.bsl 4 0 [(.i .i64 0),(.i .i64 0),(.s []),(.l 4 [])] []),
oo 105 (fa 3 9),
ow 106 (.ld false 1 (.t 105)) 2,
om 107 12,
ow 108 (.slc 4 (.t 106) none (some (.t 107))) 14,
ow 109 (.app 4 56 (.t 104) (.t 108)) 31,
ol 110 true 4 14,
ow 111 (.bsl 4 1 [(.i .i64 0),(.i .i64 0),(.s []),(.l 4 [])] [(0,.t 110)]) 64,
ow 112 (.app 4 56 (.t 109) (.t 111)) 255,
oo 113 (fa 3 9),
ow 114 (.ld false 1 (.t 113)) 512,
om 115 12,
ow 116 (.slc 4 (.t 114) (some (.t 115)) none) 3584,
ow 117 (.app 4 56 (.t 112) (.t 116)) 8191,
ow 118 (fa 3 9) 16383,
oz (.st 1 (.t 118) (.t 117)) 32767])) (.skip)))))) (
.region false [
om 79 10,
ob 80 .sub (.t 79) (ki 1),
om 10 80])))))) (
sq ([
ol 119 true 4 9,
oz (.st 4 (.t 4) (.t 119)) 0]) (
.ret))))),[.cell 4 true 4]⟩
def Zkw:Notes:={ anns:=[⟨[4,6,7,8],[],[],[],[(6,3)],true⟩,⟨[0,1,4,9,10],[],[],[],[(9,3)],true⟩],frz:=[],rgs:=[] }
def zk8:CFn:=⟨sq ([
oo 1 (.box (.t 0)),
oo 2 (.mv (kb false))]) (
.seq (sq ([
ol 6 true 4 1,
oo 7 (.call 113 [.t 6] 0 true),
ob 8 .gtr (.t 7) (ki 60)]) (
ct 8 (
sq ([
oo 2 (.mv (kb false))]) (
.ret)) (.skip))) (
.seq (sq ([
oo 3 (.mv (ki 0))]) (
.block 0 (.loop ⟨[1,3],[],[],[],[],true⟩ (.seq (sq ([
om 9 3,
oo 10 (fa 3 1),
ol 11 false 1 10,
oo 12 (.len 0 (.t 11)),
ob 13 .lss (.t 9) (.t 12)]) (
ct 13 (
.skip) (.exit 0))) (
.seq (.block 1 (sq ([
oo 16 (fa 3 1),
ol 17 false 1 16,
om 18 3,
oo 19 (.ia 4 (.t 17) (.t 18)),
ol 20 true 4 19,
oo 21 (.call 110 [.t 20] 0 true),
oo 22 (.un .not (.t 21)),
om 23 22,
oh 24 (fa 3 1) 23,
oh 25 (.ld false 1 (.t 24)) 23,
oh 26 (.mv (.t 3)) 23,
oh 27 (.ia 4 (.t 25) (.t 26)) 23,
oh 28 (fa 0 27) 23,
oh 29 (.ld false 1 (.t 28)) 23,
oh 30 (.bin .eql (.t 29) (ki 7)) 23,
oo 31 (.pick (.t 23) (kb true) (.t 30))]) (
ct 31 (
sq ([
oo 2 (.mv (kb false))]) (
.ret)) (.skip)))) (
.region false [
om 14 3,
ob 15 .add (.t 14) (ki 1),
om 3 15])))))) (
.seq (sq ([
oo 32 (fa 0 1),
ol 33 false 1 32]) (
.block 2 (sq ([
ob 35 .eql (.t 33) (ki 1),
om 34 35]) (
ct 34 (
sq ([
oo 36 (fa 2 1),
ol 37 false 1 36,
oo 38 (.bin .eql (.t 37) (.k (.d (.s [])))),
om 39 38,
og 40 (fa 3 1) 39,
og 41 (.ld false 1 (.t 40)) 39,
og 42 (.len 0 (.t 41)) 39,
og 43 (.bin .eql (.t 42) (ki 0)) 39,
oo 44 (.pick (.t 39) (.t 43) (kb false)),
om 2 44]) (
.ret)) (sq ([
ob 46 .eql (.t 33) (ki 2),
om 45 46]) (
ct 45 (
sq ([
oo 47 (fa 2 1),
ol 48 false 1 47,
oo 49 (.bin .eql (.t 48) (.k (.d (.s [])))),
om 50 49,
og 51 (fa 3 1) 50,
og 52 (.ld false 1 (.t 51)) 50,
og 53 (.len 0 (.t 52)) 50,
og 54 (.bin .eql (.t 53) (ki 0)) 50,
oo 55 (.pick (.t 50) (.t 54) (kb false)),
om 56 55,
og 57 (fa 1 1) 56,
og 58 (.ld false 1 (.t 57)) 56,
og 59 (.bin .eql (.t 58) (ki 0)) 56,
og 60 (.mv (.t 59)) 56,
oh 61 (fa 1 1) 60,
oh 62 (.ld false 1 (.t 61)) 60,
oh 63 (.bin .eql (.t 62) (ki 1)) 60,
og 64 (.pick (.t 60) (kb true) (.t 63)) 56,
oo 65 (.pick (.t 56) (.t 64) (kb false)),
om 2 65]) (
.ret)) (sq ([
ob 67 .eql (.t 33) (ki 3),
om 66 67]) (
ct 66 (
sq ([
oo 68 (fa 1 1),
ol 69 false 1 68,
ob 70 .eql (.t 69) (ki 0),
om 71 70,
og 72 (fa 3 1) 71,
og 73 (.ld false 1 (.t 72)) 71,
og 74 (.len 0 (.t 73)) 71,
og 75 (.bin .eql (.t 74) (ki 0)) 71,
oo 76 (.pick (.t 71) (.t 75) (kb false)),
om 2 76]) (
.ret)) (sq ([
ob 78 .eql (.t 33) (ki 7),
om 77 78]) (
ct 77 (
sq ([
oo 79 (fa 2 1),
ol 80 false 1 79,
oo 81 (.bin .eql (.t 80) (.k (.d (.s [])))),
om 82 81,
og 83 (fa 3 1) 82,
og 84 (.ld false 1 (.t 83)) 82,
og 85 (.len 0 (.t 84)) 82,
og 86 (.bin .eql (.t 85) (ki 0)) 82,
oo 87 (.pick (.t 82) (.t 86) (kb false)),
om 88 87,
og 89 (fa 1 1) 88,
og 90 (.ld false 1 (.t 89)) 88,
og 91 (.bin .geq (.t 90) (ki 1)) 88,
oo 92 (.pick (.t 88) (.t 91) (kb false)),
om 93 92,
og 94 (fa 1 1) 93,
og 95 (.ld false 1 (.t 94)) 93,
og 96 (.bin .leq (.t 95) (ki 13)) 93,
oo 97 (.pick (.t 93) (.t 96) (kb false)),
om 2 97]) (
.ret)) (.skip))))))))))) (
.seq (sq ([
oo 98 (fa 1 1),
ol 99 false 1 98,
ob 100 .neq (.t 99) (ki 0),
om 101 100,
oh 102 (fa 2 1) 101,
oh 103 (.ld false 1 (.t 102)) 101,
oh 104 (.bin .neq (.t 103) (.k (.d (.s [])))) 101,
oo 105 (.pick (.t 101) (kb true) (.t 104)),
om 106 105,
oh 107 (fa 0 1) 106,
oh 108 (.ld false 1 (.t 107)) 106,
oh 109 (.bin .lss (.t 108) (ki 4)) 106,
oo 110 (.pick (.t 106) (kb true) (.t 109)),
om 111 110,
oh 112 (fa 0 1) 111,
oh 113 (.ld false 1 (.t 112)) 111,
oh 114 (.bin .gtr (.t 113) (ki 6)) 111,
oo 115 (.pick (.t 111) (kb true) (.t 114))]) (
ct 115 (
sq ([
oo 2 (.mv (kb false))]) (
.ret)) (.skip))) (
.seq (sq ([
oo 4 (.mv (ki 0))]) (
.block 3 (.loop ⟨[1,4],[],[],[],[],true⟩ (.seq (sq ([
om 116 4,
oo 117 (fa 3 1),
ol 118 false 1 117,
oo 119 (.len 0 (.t 118)),
ob 120 .lss (.t 116) (.t 119)]) (
ct 120 (
.skip) (.exit 3))) (
.seq (.block 4 (sq ([
oo 123 (fa 3 1),
ol 124 false 1 123,
om 125 4,
oo 126 (.ia 4 (.t 124) (.t 125)),
ol 127 true 4 126,
oo 5 (.zero (.agg zV)),
oz (.st 4 (.t 5) (.t 127)) 0]) (
.seq (.seq (.region true [
oo 128 (fa 0 1),
ow 129 (.ld false 1 (.t 128)) 1,
ow 130 (.bin .eql (.t 129) (ki 5)) 3,
ow 131 (.mv (.t 130)) 7,
⟨some 132,.mv (.t 4),(some (131,true)),15⟩,
⟨some 133,.bin .gtr (.t 132) (ki 0),(some (131,true)),31⟩,
ow 134 (.pick (.t 131) (.t 133) (kb false)) 63,
ow 135 (.mv (.t 134)) 127,
⟨some 136,.fa 3 (.t 1),(some (135,true)),255⟩,
⟨some 137,.ld false 1 (.t 136),(some (135,true)),511⟩,
⟨some 138,.mv (.t 4),(some (135,true)),255⟩,
⟨some 139,.bin .sub (.t 138) (ki 1),(some (135,true)),1279⟩,
⟨some 140,.ia 4 (.t 137) (.t 139),(some (135,true)),4095⟩,
⟨some 141,.ld true 4 (.t 140),(some (135,true)),8191⟩,
⟨some 142,.ld true 4 (.t 5),(some (135,true)),255⟩,
⟨some 143,.call 115 [.t 141,.t 142] 0 true,(some (135,true)),32767⟩,
⟨some 144,.bin .geq (.t 143) (ki 0),(some (135,true)),65535⟩,
ow 145 (.pick (.t 135) (.t 144) (kb false)) 131071]) (
ct 145 (
sq ([
oo 2 (.mv (kb false))]) (
.ret)) (.skip))) (
.seq (.region true [
oo 146 (fa 0 1),
ow 147 (.ld false 1 (.t 146)) 1,
ow 148 (.bin .eql (.t 147) (ki 6)) 3,
ow 149 (.mv (.t 148)) 7,
⟨some 150,.fa 0 (.t 5),(some (149,true)),15⟩,
⟨some 151,.ld false 1 (.t 150),(some (149,true)),31⟩,
⟨some 152,.bin .neq (.t 151) (ki 4),(some (149,true)),63⟩,
⟨some 153,.mv (.t 152),(some (149,true)),127⟩,
⟨some 154,.fa 3 (.t 5),(some (153,false)),255⟩,
⟨some 155,.ld false 1 (.t 154),(some (153,false)),511⟩,
⟨some 156,.len 0 (.t 155),(some (153,false)),1023⟩,
⟨some 157,.bin .neq (.t 156) (ki 2),(some (153,false)),2047⟩,
⟨some 158,.pick (.t 153) (kb true) (.t 157),(some (149,true)),4095⟩,
⟨some 159,.mv (.t 158),(some (149,true)),8191⟩,
⟨some 160,.fa 3 (.t 5),(some (159,false)),16383⟩,
⟨some 161,.ld false 1 (.t 160),(some (159,false)),32767⟩,
⟨some 162,.ia 4 (.t 161) (ki 0),(some (159,false)),65535⟩,
⟨some 163,.fa 0 (.t 162),(some (159,false)),131071⟩,
⟨some 164,.ld false 1 (.t 163),(some (159,false)),262143⟩,
⟨some 165,.bin .neq (.t 164) (ki 3),(some (159,false)),524287⟩,
⟨some 166,.pick (.t 159) (kb true) (.t 165),(some (149,true)),1048575⟩,
⟨some 167,.mv (.t 166),(some (149,true)),2097151⟩,
⟨some 168,.mv (.t 4),(some (167,false)),4194303⟩,
⟨some 169,.bin .gtr (.t 168) (ki 0),(some (167,false)),8388607⟩,
⟨some 170,.mv (.t 169),(some (167,false)),16777215⟩,
⟨some 171,.fa 3 (.t 1),(some (170,true)),33554431⟩,
⟨some 172,.ld false 1 (.t 171),(some (170,true)),67108863⟩,
⟨some 173,.mv (.t 4),(some (170,true)),33554431⟩,
⟨some 174,.bin .sub (.t 173) (ki 1),(some (170,true)),167772159⟩,
⟨some 175,.ia 4 (.t 172) (.t 174),(some (170,true)),536870911⟩,
⟨some 176,.fa 3 (.t 175),(some (170,true)),1073741823⟩,
⟨some 177,.ld false 1 (.t 176),(some (170,true)),2147483647⟩,
⟨some 178,.ia 4 (.t 177) (ki 0),(some (170,true)),4294967295⟩,
⟨some 179,.fa 2 (.t 178),(some (170,true)),8589934591⟩,
⟨some 180,.ld false 1 (.t 179),(some (170,true)),17179869183⟩,
⟨some 181,.fa 3 (.t 5),(some (170,true)),33554431⟩,
⟨some 182,.ld false 1 (.t 181),(some (170,true)),34393292799⟩,
⟨some 183,.ia 4 (.t 182) (ki 0),(some (170,true)),103112769535⟩,
⟨some 184,.fa 2 (.t 183),(some (170,true)),240551723007⟩,
⟨some 185,.ld false 1 (.t 184),(some (170,true)),515429629951⟩,
⟨some 186,.bin .geq (.t 180) (.t 185),(some (170,true)),1099511627775⟩,
⟨some 187,.pick (.t 170) (.t 186) (kb false),(some (167,false)),2199023255551⟩,
⟨some 188,.pick (.t 167) (kb true) (.t 187),(some (149,true)),4398046511103⟩,
ow 189 (.pick (.t 149) (.t 188) (kb false)) 8796093022207]) (
ct 189 (
sq ([
oo 2 (.mv (kb false))]) (
.ret)) (.skip)))))) (
.region false [
om 121 4,
ob 122 .add (.t 121) (ki 1),
om 4 122])))))) (
sq ([
oo 2 (.mv (kb true))]) (
.ret))))))),[.slot 2]⟩
def Zkx:Notes:={ anns:=[⟨[1,3],[],[],[],[],true⟩,⟨[1,4],[],[],[],[],true⟩],frz:=[],rgs:=[] }
def Zax:CFn:=⟨sq ([
oo 1 (.box (.t 0)),
oo 2 (.mv (kb false))]) (
sq ([
ol 3 true 4 1,
oo 4 (.call 112 [.t 3] 0 true),
ob 5 .leq (.t 4) (ki 60),
om 6 5,
og 7 (.ld true 4 (.t 1)) 6,
og 8 (.call 125 [.t 7] 0 true) 6,
oo 9 (.pick (.t 6) (.t 8) (kb false)),
om 2 9]) (
.ret)),[.slot 2]⟩
def Zky:Notes:={ anns:=[],frz:=[],rgs:=[] }
def Zay:CFn:=⟨sq ([
oo 1 (.box (.t 0)),
oo 2 (.mv (ki 0))]) (
sq ([
oo 6 (fa 2 1),
ol 7 false 1 6,
oo 8 (.len 1 (.t 7)),
ob 9 .quo (.t 8) (ki 16),
ob 10 .add (ki 1) (.t 9),
om 3 10]) (
.seq (sq ([
oo 11 (fa 3 1),
ol 12 false 1 11,
oo 13 (.len 0 (.t 12)),
oo 14 (.mv (ki 0))]) (
.block 0 (.loop ⟨[3,12,13,14],[],[],[],[],true⟩ (sq ([
ob 15 .lss (.t 14) (.t 13)]) (
.seq (ct 15 (
.skip) (.exit 0)) (
.seq (.block 1 (sq ([
oo 16 (.ia 4 (.t 12) (.t 14)),
ol 17 true 4 16,
oo 5 (.zero (.agg zV)),
oz (.st 4 (.t 5) (.t 17)) 0]) (
.region false [
om 18 3,
ol 19 true 4 5,
oo 20 (.call 112 [.t 19] 0 true),
ob 21 .add (.t 18) (.t 20),
om 3 21]))) (
.region false [
ob 22 .add (.t 14) (ki 1),
om 14 22]))))))) (
sq ([
om 23 3,
om 2 23]) (
.ret)))),[.slot 2]⟩
def Zkz:Notes:={ anns:=[⟨[3,12,13,14],[],[],[],[],true⟩],frz:=[],rgs:=[] }
def z58:CFn:=⟨sq ([
oo 1 (.box (.t 0)),
oo 2 (.mv (ki 0))]) (
sq ([
oo 5 (fa 2 1),
ol 6 false 1 5,
oo 7 (.len 1 (.t 6)),
ob 8 .quo (.t 7) (ki 16),
ob 9 .add (ki 1) (.t 8),
om 3 9]) (
.seq (sq ([
oo 4 (.mv (ki 0))]) (
.block 0 (.loop ⟨[1,3,4],[],[],[],[],true⟩ (.seq (sq ([
om 10 4,
oo 11 (fa 3 1),
ol 12 false 1 11,
oo 13 (.len 0 (.t 12)),
ob 14 .lss (.t 10) (.t 13)]) (
ct 14 (
.skip) (.exit 0))) (
.seq (.block 1 (.region false [
om 17 3,
oo 18 (fa 3 1),
ol 19 false 1 18,
om 20 4,
oo 21 (.ia 4 (.t 19) (.t 20)),
ol 22 true 4 21,
oo 23 (.call 113 [.t 22] 0 true),
ob 24 .add (.t 17) (.t 23),
om 3 24])) (
.region false [
om 15 4,
ob 16 .add (.t 15) (ki 1),
om 4 16])))))) (
sq ([
om 25 3,
om 2 25]) (
.ret)))),[.slot 2]⟩
def Zk0:Notes:={ anns:=[⟨[1,3,4],[],[],[],[],true⟩],frz:=[],rgs:=[] }
def Zfh:CFn:=⟨sq ([
oo 2 (.box (.t 0)),
oo 3 (.box (.t 1)),
oo 4 (.mv (ki 0))]) (
.seq (.region true [
oo 5 (fa 0 2),
ow 6 (.ld false 1 (.t 5)) 1,
oo 7 (fa 0 3),
ow 8 (.ld false 1 (.t 7)) 4,
ow 9 (.call 127 [.t 6,.t 8] 0 true) 15,
oo 10 (fa 1 2),
ow 11 (.ld false 1 (.t 10)) 32,
oo 12 (fa 1 3),
ow 13 (.ld false 1 (.t 12)) 128,
ow 14 (.call 128 [.t 11,.t 13] 0 true) 511,
oo 15 (fa 2 2),
ow 16 (.ld false 1 (.t 15)) 1024,
oo 17 (fa 2 3),
ow 18 (.ld false 1 (.t 17)) 4096,
ow 19 (.call 129 [.t 16,.t 18] 0 true) 16383,
oo 20 (fa 3 2),
ow 21 (.ld false 1 (.t 20)) 32768,
oo 22 (fa 3 3),
ow 23 (.ld false 1 (.t 22)) 131072,
ow 24 (.call 130 [.t 21,.t 23,(.k (.d (.f 114 [] [])))] 4 true) 524287,
ow 25 (.bsl 1 4 [(.i .i64 0)] [(0,.t 9),(1,.t 14),(2,.t 19),(3,.t 24)]) 1048575,
ow 26 (.call 126 [.t 25] 0 true) 2097151,
ow 4 (.mv (.t 26)) 4194303]) (
.ret)),[.slot 4]⟩
def Zk1:Notes:={ anns:=[],frz:=[],rgs:=[] }
def zvm:CFn:=⟨sq ([
oo 2 (.box (.t 0)),
oo 3 (.box (.t 1)),
oo 4 (.mv (ki 0))]) (
.seq (.block 0 (sq ([
oo 8 (fa 0 2),
ol 9 false 1 8,
oo 10 (fa 0 3),
ol 11 false 1 10,
ob 12 .neq (.t 9) (.t 11),
om 7 12]) (
ct 7 (
sq ([
oo 13 (fa 0 2),
ol 14 false 1 13,
oo 15 (fa 0 3),
ol 16 false 1 15,
ob 17 .lss (.t 14) (.t 16),
oo 18 (.call 131 [.t 17] 0 true),
om 4 18]) (
.ret)) (sq ([
oo 20 (fa 1 2),
ol 21 false 1 20,
oo 22 (fa 1 3),
ol 23 false 1 22,
ob 24 .neq (.t 21) (.t 23),
om 19 24]) (
ct 19 (
sq ([
oo 25 (fa 1 2),
ol 26 false 1 25,
oo 27 (fa 1 3),
ol 28 false 1 27,
ob 29 .lss (.t 26) (.t 28),
oo 30 (.call 131 [.t 29] 0 true),
om 4 30]) (
.ret)) (sq ([
oo 32 (fa 2 2),
ol 33 false 1 32,
oo 34 (fa 2 3),
ol 35 false 1 34,
ob 36 .neq (.t 33) (.t 35),
om 31 36]) (
ct 31 (
sq ([
oo 37 (fa 2 2),
ol 38 false 1 37,
oo 39 (fa 2 3),
ol 40 false 1 39,
ob 41 .lss (.t 38) (.t 40),
oo 42 (.call 131 [.t 41] 0 true),
om 4 42]) (
.ret)) (.skip)))))))) (
.seq (sq ([
oo 5 (.mv (ki 0))]) (
.block 1 (.loop ⟨[2,3,5],[],[],[],[],true⟩ (.seq (sq ([
om 43 5,
oo 44 (fa 3 2),
ol 45 false 1 44,
oo 46 (.len 0 (.t 45)),
ob 47 .lss (.t 43) (.t 46),
om 48 47,
og 49 (.mv (.t 5)) 48,
og 50 (fa 3 3) 48,
og 51 (.ld false 1 (.t 50)) 48,
og 52 (.len 0 (.t 51)) 48,
og 53 (.bin .lss (.t 49) (.t 52)) 48,
oo 54 (.pick (.t 48) (.t 53) (kb false))]) (
ct 54 (
.skip) (.exit 1))) (
.seq (.block 2 (.seq (.region true [
oo 57 (fa 3 2),
ow 58 (.ld false 1 (.t 57)) 1,
om 59 5,
ow 60 (.ia 4 (.t 58) (.t 59)) 7,
ow 61 (.ld true 4 (.t 60)) 15,
oo 62 (fa 3 3),
ow 63 (.ld false 1 (.t 62)) 32,
om 64 5,
ow 65 (.ia 4 (.t 63) (.t 64)) 224,
ow 66 (.ld true 4 (.t 65)) 480,
ow 67 (.call 115 [.t 61,.t 66] 0 true) 1023,
ow 6 (.mv (.t 67)) 2047]) (
sq ([
om 68 6,
ob 69 .neq (.t 68) (ki 0)]) (
ct 69 (
sq ([
om 70 6,
om 4 70]) (
.ret)) (.skip))))) (
.region false [
om 55 5,
ob 56 .add (.t 55) (ki 1),
om 5 56])))))) (
.seq (sq ([
oo 71 (fa 3 2),
ol 72 false 1 71,
oo 73 (.len 0 (.t 72)),
oo 74 (fa 3 3),
ol 75 false 1 74,
oo 76 (.len 0 (.t 75)),
ob 77 .eql (.t 73) (.t 76)]) (
ct 77 (
sq ([
oo 4 (.mv (ki 0))]) (
.ret)) (.skip))) (
sq ([
oo 78 (fa 3 2),
ol 79 false 1 78,
oo 80 (.len 0 (.t 79)),
oo 81 (fa 3 3),
ol 82 false 1 81,
oo 83 (.len 0 (.t 82)),
ob 84 .lss (.t 80) (.t 83),
oo 85 (.call 131 [.t 84] 0 true),
om 4 85]) (
.ret))))),[.slot 4]⟩
def Zk2:Notes:={ anns:=[⟨[2,3,5],[],[],[],[],true⟩],frz:=[],rgs:=[] }
def Zaz:CFn:=⟨sq ([
oo 3 (.box (.t 1)),
oo 4 (.mv (.k (.nil 4)))]) (
sq ([
om 8 0,
oo 9 (.build zV [(3,1,.t 8)]),
oo 10 (.call 132 [.t 9] 4 false),
oo 11 (.fl false 3 1 (.t 10)),
om 5 11]) (
sq ([
om 13 0,
ol 14 true 4 3,
oo 15 (.call 133 [.t 13,.t 14,(.k (.d (.f 114 [] [])))] 4 true),
om 12 15,
oo 16 (.ext (.t 12) 0),
oo 17 (.ext (.t 12) 1),
om 6 16,
om 7 17]) (
.seq (sq ([
om 18 7]) (
ct 18 (
sq ([
om 19 5,
om 4 19]) (
.ret)) (.skip))) (
sq ([
om 20 5,
om 21 6,
ol 22 true 4 3,
oo 23 (.call 132 [.t 22] 0 true),
oo 24 (.bsl 4 1 [(.i .i64 0),(.i .i64 0),(.s []),(.l 4 [])] [(0,.t 23)]),
oo 25 (.call 134 [.t 20,.t 21,.t 24] 0 true),
om 4 25]) (
.ret))))),[.slot 4]⟩
def Zk3:Notes:={ anns:=[],frz:=[0,0,0,0,1],rgs:=[] }
def z1y:CFn:=⟨sq ([
oo 3 (.box (.t 1)),
oo 4 (.mv (.k (.nil 4)))]) (
sq ([
oo 5 (.mv (ki 0))]) (
.seq (.block 0 (.loop ⟨[0,3,5],[],[],[],[],true⟩ (.seq (.seq (.region true [
om 6 5,
om 7 0,
ow 8 (.len 0 (.t 7)) 2,
ow 9 (.bin .lss (.t 6) (.t 8)) 7,
ow 10 (.mv (.t 9)) 15,
⟨some 11,.mv (.t 0),(some (10,true)),31⟩,
⟨some 12,.mv (.t 5),(some (10,true)),31⟩,
⟨some 13,.ia 4 (.t 11) (.t 12),(some (10,true)),127⟩,
⟨some 14,.ld true 4 (.t 13),(some (10,true)),255⟩,
⟨some 15,.ld true 4 (.t 3),(some (10,true)),31⟩,
⟨some 16,.call 115 [.t 14,.t 15] 0 true,(some (10,true)),1023⟩,
⟨some 17,.bin .lss (.t 16) (ki 0),(some (10,true)),2047⟩,
ow 18 (.pick (.t 10) (.t 17) (kb false)) 4095]) (
ct 18 (
.skip) (.exit 0))) (
.block 1 (.region false [
om 19 5,
ob 20 .add (.t 19) (ki 1),
om 5 20]))))) (
.seq (.seq (.region true [
om 21 5,
om 22 0,
ow 23 (.len 0 (.t 22)) 2,
ow 24 (.bin .lss (.t 21) (.t 23)) 7,
ow 25 (.mv (.t 24)) 15,
⟨some 26,.mv (.t 0),(some (25,true)),31⟩,
⟨some 27,.mv (.t 5),(some (25,true)),31⟩,
⟨some 28,.ia 4 (.t 26) (.t 27),(some (25,true)),127⟩,
⟨some 29,.ld true 4 (.t 28),(some (25,true)),255⟩,
⟨some 30,.ld true 4 (.t 3),(some (25,true)),31⟩,
⟨some 31,.call 115 [.t 29,.t 30] 0 true,(some (25,true)),1023⟩,
⟨some 32,.bin .eql (.t 31) (ki 0),(some (25,true)),2047⟩,
ow 33 (.pick (.t 25) (.t 32) (kb false)) 4095]) (
ct 33 (
sq ([
oo 34 (.bsl 4 0 [(.i .i64 0),(.i .i64 0),(.s []),(.l 4 [])] []),
om 35 0,
oo 36 (.app 4 56 (.t 34) (.t 35)),
om 4 36]) (
.ret)) (.skip))) (
.seq (.region true [
oo 37 (.bsl 4 0 [(.i .i64 0),(.i .i64 0),(.s []),(.l 4 [])] []),
om 38 0,
om 39 5,
ow 40 (.slc 4 (.t 38) none (some (.t 39))) 6,
ow 41 (.app 4 56 (.t 37) (.t 40)) 15,
ol 42 true 4 3,
ow 43 (.bsl 4 1 [(.i .i64 0),(.i .i64 0),(.s []),(.l 4 [])] [(0,.t 42)]) 32,
ow 44 (.app 4 56 (.t 41) (.t 43)) 127,
om 45 0,
om 46 5,
ow 47 (.slc 4 (.t 45) (some (.t 46)) none) 768,
ow 48 (.app 4 56 (.t 44) (.t 47)) 2047,
ow 4 (.mv (.t 48)) 4095]) (
.ret))))),[.slot 4]⟩
def Zk4:Notes:={ anns:=[⟨[0,3,5],[],[],[],[],true⟩],frz:=[],rgs:=[] }
def Zfi:CFn:=⟨sq ([
oo 4 (.mv (ki 0)),
oo 5 (.mv (kb false))]) (
sq ([
om 6 0,
om 7 1,
oo 8 (.call 135 [.t 6,.t 7,(.k (.d (.f 136 [] [])))] 4 true),
oo 9 (.ext (.t 8) 0),
oo 10 (.ext (.t 8) 1),
om 4 9,
om 5 10]) (
.ret)),[.slot 4,.slot 5]⟩
def Zk5:Notes:={ anns:=[],frz:=[],rgs:=[] }
def z3b:CFn:=⟨sq ([
oo 4 (.mv (ki 0)),
oo 5 (.mv (kb false))]) (
sq ([
oo 6 (.mv (ki 0))]) (
.seq (.block 0 (.loop ⟨[0,1,6],[],[],[],[],true⟩ (.seq (sq ([
om 7 6,
om 8 0,
oo 9 (.len 0 (.t 8)),
ob 10 .lss (.t 7) (.t 9),
om 11 10,
og 12 (.mv (.t 0)) 11,
og 13 (.mv (.t 6)) 11,
og 14 (.ia 4 (.t 12) (.t 13)) 11,
og 15 (.ld true 4 (.t 14)) 11,
og 16 (.call 138 [.t 15] 0 true) 11,
og 17 (.mv (.t 1)) 11,
og 18 (.bin .lss (.t 16) (.t 17)) 11,
oo 19 (.pick (.t 11) (.t 18) (kb false))]) (
ct 19 (
.skip) (.exit 0))) (
.block 1 (.region false [
om 20 6,
ob 21 .add (.t 20) (ki 1),
om 6 21]))))) (
sq ([
om 22 6,
om 23 6,
om 24 0,
oo 25 (.len 0 (.t 24)),
ob 26 .lss (.t 23) (.t 25),
om 27 26,
og 28 (.mv (.t 0)) 27,
og 29 (.mv (.t 6)) 27,
og 30 (.ia 4 (.t 28) (.t 29)) 27,
og 31 (fa 3 30) 27,
og 32 (.ld false 1 (.t 31)) 27,
og 33 (.len 0 (.t 32)) 27,
og 34 (.bin .gtr (.t 33) (ki 0)) 27,
oo 35 (.pick (.t 27) (.t 34) (kb false)),
om 36 35,
og 37 (.mv (.t 0)) 36,
og 38 (.mv (.t 6)) 36,
og 39 (.ia 4 (.t 37) (.t 38)) 36,
og 40 (.ld true 4 (.t 39)) 36,
og 41 (.call 138 [.t 40] 0 true) 36,
og 42 (.mv (.t 1)) 36,
og 43 (.bin .eql (.t 41) (.t 42)) 36,
oo 44 (.pick (.t 36) (.t 43) (kb false)),
om 4 22,
om 5 44]) (
.ret)))),[.slot 4,.slot 5]⟩
def Zk6:Notes:={ anns:=[⟨[0,1,6],[],[],[],[],true⟩],frz:=[],rgs:=[] }
def c121:CFn:=⟨sq ([
oo 2 (.box (.t 0)),
oo 3 (.box (.t 1)),
oo 4 (.mv (kb false))]) (
sq ([
ol 5 true 4 2,
ol 6 true 4 3,
oo 7 (.call 115 [.t 5,.t 6] 0 true),
ob 8 .eql (.t 7) (ki 0),
om 4 8]) (
.ret)),[.slot 4]⟩
def Zk7:Notes:={ anns:=[],frz:=[],rgs:=[] }
def Za0:CFn:=⟨sq ([
oo 4 (.mv (ki 0))]) (
.seq (.seq (.region true [
om 5 0,
ow 6 (.nilc (.t 5)) 1,
ow 7 (fa 1 6) 3,
ow 8 (.ld false 1 (.t 7)) 7,
om 9 0,
ow 10 (.nilc (.t 9)) 16,
ow 11 (fa 0 10) 48,
ow 12 (.ld false 1 (.t 11)) 112,
ow 13 (.len 0 (.t 12)) 240,
ow 14 (.bin .geq (.t 8) (.t 13)) 511]) (
ct 14 (
sq ([
oo 4 (.mv (ki 0))]) (
.ret)) (.skip))) (
sq ([
om 15 0,
oo 16 (.nilc (.t 15)),
oo 17 (fa 1 16),
ol 18 false 1 17,
ob 19 .add (.t 18) (ki 1),
oo 20 (.nilc (.t 15)),
oo 21 (fa 1 20),
oz (.st 1 (.t 21) (.t 19)) 0]) (
.seq (.region true [
om 22 0,
ow 23 (.nilc (.t 22)) 1,
ow 24 (fa 0 23) 3,
ow 25 (.ld false 1 (.t 24)) 7,
om 26 0,
ow 27 (.nilc (.t 26)) 16,
ow 28 (fa 1 27) 48,
ow 29 (.ld false 1 (.t 28)) 112,
ow 30 (.bin .sub (.t 29) (ki 1)) 240,
ow 31 (.ia 1 (.t 25) (.t 30)) 511,
ow 32 (.ld false 1 (.t 31)) 1023,
ow 33 (.conv .i64 (.t 32)) 2047,
om 34 1,
ow 35 (.bin .rem (.t 33) (.t 34)) 8191,
ow 4 (.mv (.t 35)) 16383]) (
.ret)))),[.slot 4]⟩
def Zk8:Notes:={ anns:=[],frz:=[],rgs:=[] }
def z8a:CFn:=⟨sq ([
oo 4 (.mv (.k (.nil 4)))]) (
sq ([
oo 5 (.mv (.k (.nil 4)))]) (
.seq (sq ([
om 7 0,
oo 8 (.call 123 [.t 7,(ki 4)] 4 true),
om 6 8]) (
.block 0 (.loop ⟨[0,1,5,6],[5],[],[],[],true⟩ (.seq (sq ([
om 9 6,
ob 10 .gtr (.t 9) (ki 0)]) (
ct 10 (
.skip) (.exit 0))) (
.seq (.block 1 (.region false [
om 13 5,
om 14 0,
om 15 1,
ob 16 .sub (.t 15) (ki 1),
oo 17 (.call 109 [.t 14,.t 16] 4 true),
oo 18 (.bsl 4 1 [(.i .i64 0),(.i .i64 0),(.s []),(.l 4 [])] [(0,.t 17)]),
oo 19 (.app 4 56 (.t 13) (.t 18)),
om 5 19])) (
.region false [
om 11 6,
ob 12 .sub (.t 11) (ki 1),
om 6 12])))))) (
sq ([
om 20 5,
om 4 20]) (
.ret)))),[.slot 4]⟩
def Zk9:Notes:={ anns:=[⟨[0,1,5,6],[5],[],[],[],true⟩],frz:=[],rgs:=[] }
def z1z:CFn:=⟨sq ([
oo 1 (.box (.t 0)),
oo 2 (.mv (kb false))]) (
.seq (sq ([
oo 3 (fa 0 1),
ol 4 false 1 3,
ob 5 .lss (.t 4) (ki 1),
om 6 5,
oh 7 (fa 0 1) 6,
oh 8 (.ld false 1 (.t 7)) 6,
oh 9 (.bin .gtr (.t 8) (ki 7)) 6,
oo 10 (.pick (.t 6) (kb true) (.t 9)),
om 11 10,
oh 12 (.ld true 4 (.t 1)) 11,
oh 13 (.call 139 [.t 12] 0 true) 11,
oh 14 (.un .not (.t 13)) 11,
oo 15 (.pick (.t 11) (kb true) (.t 14)),
om 16 15,
oh 17 (fa 0 1) 16,
oh 18 (.ld false 1 (.t 17)) 16,
oh 19 (.bin .neq (.t 18) (ki 3)) 16,
oh 20 (.mv (.t 19)) 16,
og 21 (fa 2 1) 20,
og 22 (.ld false 1 (.t 21)) 20,
og 23 (.bin .neq (.t 22) (.k (.d (.s [])))) 20,
oh 24 (.pick (.t 20) (.t 23) (kb false)) 16,
oo 25 (.pick (.t 16) (kb true) (.t 24)),
om 26 25,
oh 27 (.ld true 4 (.t 1)) 26,
oh 28 (.call 140 [.t 27] 0 true) 26,
oh 29 (.un .not (.t 28)) 26,
oo 30 (.pick (.t 26) (kb true) (.t 29))]) (
ct 30 (
sq ([
oo 2 (.mv (kb false))]) (
.ret)) (.skip))) (
sq ([
oo 31 (fa 3 1),
ol 32 false 1 31,
oo 33 (.call 141 [.t 32,(.k (.d (.f 142 [] [])))] 4 true),
oo 34 (.un .not (.t 33)),
om 2 34]) (
.ret))),[.slot 2]⟩
def Zla:Notes:={ anns:=[],frz:=[],rgs:=[] }
def z59:CFn:=⟨sq ([
oo 2 (.mv (ki 0))]) (
sq ([
oo 3 (.mv (ki 0))]) (
.seq (sq ([
om 6 0,
oo 7 (.len 0 (.t 6)),
oo 8 (.mv (ki 0))]) (
.block 0 (.loop ⟨[3,6,7,8],[],[],[],[],true⟩ (sq ([
ob 9 .lss (.t 8) (.t 7)]) (
.seq (ct 9 (
.skip) (.exit 0)) (
.seq (.block 1 (sq ([
oo 10 (.ia 1 (.t 6) (.t 8)),
ol 11 false 1 10,
om 5 11]) (
sq ([
om 12 5,
om 13 3,
ob 14 .neq (.t 12) (.t 13)]) (
ct 14 (
sq ([
om 15 5,
om 2 15]) (
.ret)) (.skip))))) (
.region false [
ob 16 .add (.t 8) (ki 1),
om 8 16]))))))) (
sq ([
om 17 3,
om 2 17]) (
.ret)))),[.slot 2]⟩
def Zlb:Notes:={ anns:=[⟨[3,6,7,8],[],[],[],[],true⟩],frz:=[],rgs:=[] }
def c127:CFn:=⟨sq ([
oo 4 (.mv (ki 0))]) (
sq ([
om 7 0,
oo 8 (.call 143 [.t 7] 0 true),
om 5 8]) (
sq ([
om 9 1,
oo 10 (.call 143 [.t 9] 0 true),
om 6 10]) (
.seq (sq ([
om 11 5]) (
ct 11 (
.seq (sq ([
om 12 6]) (
ct 12 (
sq ([
oo 4 (.mv (ki 0))]) (
.ret)) (.skip))) (
sq ([
oo 4 (.mv (.k (.d (.i .i64 (-1)))))]) (
.ret))) (.skip))) (
.seq (sq ([
om 13 6]) (
ct 13 (
sq ([
oo 4 (.mv (ki 1))]) (
.ret)) (.skip))) (
.seq (sq ([
om 14 0,
om 15 1,
ob 16 .lss (.t 14) (.t 15)]) (
ct 16 (
sq ([
oo 4 (.mv (.k (.d (.i .i64 (-1)))))]) (
.ret)) (.skip))) (
.seq (sq ([
om 17 0,
om 18 1,
ob 19 .gtr (.t 17) (.t 18)]) (
ct 19 (
sq ([
oo 4 (.mv (ki 1))]) (
.ret)) (.skip))) (
sq ([
oo 4 (.mv (ki 0))]) (
.ret)))))))),[.slot 4]⟩
def Zlc:Notes:={ anns:=[],frz:=[],rgs:=[] }
def z3c:CFn:=⟨sq ([
oo 4 (.mv (ki 0))]) (
sq ([
om 7 0,
oo 8 (.call 144 [.t 7] 0 true),
om 5 8]) (
sq ([
om 9 1,
oo 10 (.call 144 [.t 9] 0 true),
om 6 10]) (
.seq (sq ([
om 11 5]) (
ct 11 (
.seq (sq ([
om 12 6]) (
ct 12 (
sq ([
oo 4 (.mv (ki 0))]) (
.ret)) (.skip))) (
sq ([
oo 4 (.mv (.k (.d (.i .i64 (-1)))))]) (
.ret))) (.skip))) (
.seq (sq ([
om 13 6]) (
ct 13 (
sq ([
oo 4 (.mv (ki 1))]) (
.ret)) (.skip))) (
.seq (sq ([
om 14 0,
om 15 1,
ob 16 .lss (.t 14) (.t 15)]) (
ct 16 (
sq ([
oo 4 (.mv (.k (.d (.i .i64 (-1)))))]) (
.ret)) (.skip))) (
.seq (sq ([
om 17 0,
om 18 1,
ob 19 .gtr (.t 17) (.t 18)]) (
ct 19 (
sq ([
oo 4 (.mv (ki 1))]) (
.ret)) (.skip))) (
sq ([
oo 4 (.mv (ki 0))]) (
.ret)))))))),[.slot 4]⟩
def Zld:Notes:={ anns:=[],frz:=[],rgs:=[] }
def zw5:CFn:=⟨sq ([
oo 4 (.mv (ki 0))]) (
sq ([
om 7 0,
oo 8 (.call 145 [.t 7] 0 true),
om 5 8]) (
sq ([
om 9 1,
oo 10 (.call 145 [.t 9] 0 true),
om 6 10]) (
.seq (sq ([
om 11 5]) (
ct 11 (
.seq (sq ([
om 12 6]) (
ct 12 (
sq ([
oo 4 (.mv (ki 0))]) (
.ret)) (.skip))) (
sq ([
oo 4 (.mv (.k (.d (.i .i64 (-1)))))]) (
.ret))) (.skip))) (
.seq (sq ([
om 13 6]) (
ct 13 (
sq ([
oo 4 (.mv (ki 1))]) (
.ret)) (.skip))) (
.seq (sq ([
om 14 0,
om 15 1,
ob 16 .lss (.t 14) (.t 15)]) (
ct 16 (
sq ([
oo 4 (.mv (.k (.d (.i .i64 (-1)))))]) (
.ret)) (.skip))) (
.seq (sq ([
om 17 0,
om 18 1,
ob 19 .gtr (.t 17) (.t 18)]) (
ct 19 (
sq ([
oo 4 (.mv (ki 1))]) (
.ret)) (.skip))) (
sq ([
oo 4 (.mv (ki 0))]) (
.ret)))))))),[.slot 4]⟩
def Zle:Notes:={ anns:=[],frz:=[],rgs:=[] }
def z3d:CFn:=⟨sq ([
oo 6 (.mv (ki 0))]) (
.seq (sq ([
om 11 0,
oo 12 (.len 0 (.t 11)),
oo 13 (.mv (ki 0))]) (
.block 0 (.loop ⟨[0,1,2,11,12,13],[],[],[],[],true⟩ (sq ([
ob 14 .lss (.t 13) (.t 12)]) (
.seq (ct 14 (
.skip) (.exit 0)) (
.seq (.block 1 (sq ([
om 15 13,
oo 16 (.ia 4 (.t 11) (.t 13)),
ol 17 true 4 16,
oo 8 (.zero (.agg zV)),
om 7 15,
oz (.st 4 (.t 8) (.t 17)) 0]) (
.seq (sq ([
om 18 7,
om 19 1,
oo 20 (.len 0 (.t 19)),
ob 21 .geq (.t 18) (.t 20)]) (
ct 21 (
sq ([
oo 6 (.mv (ki 1))]) (
.ret)) (.skip))) (
sq ([
om 22 1,
om 23 7,
oo 24 (.ia 4 (.t 22) (.t 23)),
ol 25 true 4 24,
oo 9 (.zero (.agg zV)),
oz (.st 4 (.t 9) (.t 25)) 0]) (
sq ([
om 26 2,
ol 27 true 4 8,
ol 28 true 4 9,
oo 29 (.callv (.t 26) [.t 27,.t 28] 4 true),
om 10 29]) (
sq ([
om 30 10,
ob 31 .neq (.t 30) (ki 0)]) (
ct 31 (
sq ([
om 32 10,
om 6 32]) (
.ret)) (.skip)))))))) (
.region false [
ob 33 .add (.t 13) (ki 1),
om 13 33]))))))) (
.seq (sq ([
om 34 0,
oo 35 (.len 0 (.t 34)),
om 36 1,
oo 37 (.len 0 (.t 36)),
ob 38 .lss (.t 35) (.t 37)]) (
ct 38 (
sq ([
oo 6 (.mv (.k (.d (.i .i64 (-1)))))]) (
.ret)) (.skip))) (
sq ([
oo 6 (.mv (ki 0))]) (
.ret)))),[.slot 6]⟩
def Zlf:Notes:={ anns:=[⟨[0,1,2,11,12,13],[],[],[],[],true⟩],frz:=[],rgs:=[] }
def z3e:CFn:=⟨sq ([
oo 2 (.mv (ki 0))]) (
.seq (sq ([
om 3 0]) (
ct 3 (
sq ([
oo 2 (.mv (.k (.d (.i .i64 (-1)))))]) (
.ret)) (.skip))) (
sq ([
oo 2 (.mv (ki 1))]) (
.ret))),[.slot 2]⟩
def Zlg:Notes:={ anns:=[],frz:=[],rgs:=[] }
def Za1:CFn:=⟨sq ([
oo 1 (.box (.t 0)),
oo 2 (.zero (.agg zV))]) (
sq ([
oo 6 (fa 3 1),
ol 7 false 1 6,
oo 8 (.call 146 [.t 7] 4 false),
om 3 8]) (
.seq (sq ([
om 9 3,
oo 10 (.len 0 (.t 9)),
oo 11 (.mv (ki 0))]) (
.block 0 (.loop ⟨[1,2,3,9,10,11],[],[],[],[],true⟩ (sq ([
ob 12 .lss (.t 11) (.t 10)]) (
.seq (ct 12 (
.skip) (.exit 0)) (
.seq (.block 1 (sq ([
om 13 11,
oo 14 (.ia 4 (.t 9) (.t 11)),
ol 15 true 4 14,
oo 5 (.zero (.agg zV)),
om 4 13,
oz (.st 4 (.t 5) (.t 15)) 0]) (
.region false [
om 16 3,
om 17 4,
ol 18 true 4 5,
oo 19 (.call 132 [.t 18] 0 true),
oo 20 (.ia 4 (.t 16) (.t 17)),
oz (.st 4 (.t 20) (.t 19)) 0]))) (
.region false [
ob 21 .add (.t 11) (ki 1),
om 11 21]))))))) (
sq ([
om 22 3,
oo 23 (fa 3 1),
oz (.st 1 (.t 23) (.t 22)) 0]) (
sq ([
ol 24 true 4 1,
oz (.st 4 (.t 2) (.t 24)) 0]) (
.ret))))),[.cell 2 true 4]⟩
def Zlh:Notes:={ anns:=[⟨[1,2,3,9,10,11],[],[],[],[],true⟩],frz:=[0,0,0,0,1],rgs:=[] }
def Za2:CFn:=⟨sq ([
oo 4 (.box (.t 1)),
oo 6 (.mv (ki 0)),
oo 7 (.mv (kb false))]) (
sq ([
om 8 0,
ol 9 true 4 4,
om 10 2,
oo 11 (.call 147 [.t 8,.t 9,.t 10] 4 true),
oo 12 (.ext (.t 11) 0),
oo 13 (.ext (.t 11) 1),
om 6 12,
om 7 13]) (
.ret)),[.slot 6,.slot 7]⟩
def Zli:Notes:={ anns:=[],frz:=[],rgs:=[] }
def Za3:CFn:=⟨sq ([
oo 6 (.mv (ki 0)),
oo 7 (.mv (kb false))]) (
sq ([
om 8 0,
om 9 1,
om 10 2,
oo 11 (.call 150 [.t 8,.t 9,.t 10] 4 true),
oo 12 (.ext (.t 11) 0),
oo 13 (.ext (.t 11) 1),
om 6 12,
om 7 13]) (
.ret)),[.slot 6,.slot 7]⟩
def Zlj:Notes:={ anns:=[],frz:=[],rgs:=[] }
def Zfj:CFn:=⟨sq ([
oo 2 (.box (.t 0)),
oo 4 (.mv (ki 0))]) (
sq ([
ol 5 true 4 2,
oo 6 (.call 137 [.t 5] 0 true),
om 7 1,
oo 8 (.call 129 [.t 6,.t 7] 0 true),
om 4 8]) (
.ret)),[.slot 4]⟩
def Zlk:Notes:={ anns:=[],frz:=[],rgs:=[] }
def Za4:CFn:=⟨sq ([
oo 1 (.box (.t 0)),
oo 2 (.mv (.k (.d (.s []))))]) (
.seq (sq ([
oo 3 (fa 3 1),
ol 4 false 1 3,
oo 5 (.len 0 (.t 4)),
ob 6 .eql (.t 5) (ki 0)]) (
ct 6 (
sq ([
oo 2 (.mv (.k (.d (.s []))))]) (
.ret)) (.skip))) (
sq ([
oo 7 (fa 3 1),
ol 8 false 1 7,
oo 9 (.ia 4 (.t 8) (ki 0)),
oo 10 (fa 2 9),
ol 11 false 1 10,
om 2 11]) (
.ret))),[.slot 2]⟩
def Zll:Notes:={ anns:=[],frz:=[],rgs:=[] }
def Zij:CFn:=⟨sq ([
oo 1 (.box (.t 0)),
oo 2 (.mv (.k (.d (.s []))))]) (
.seq (sq ([
oo 3 (fa 3 1),
ol 4 false 1 3,
oo 5 (.len 0 (.t 4)),
ob 6 .eql (.t 5) (ki 0)]) (
ct 6 (
sq ([
oo 2 (.mv (.k (.d (.s []))))]) (
.ret)) (.skip))) (
sq ([
oo 7 (fa 3 1),
ol 8 false 1 7,
oo 9 (.ia 4 (.t 8) (ki 0)),
oo 10 (fa 2 9),
ol 11 false 1 10,
om 2 11]) (
.ret))),[.slot 2]⟩
def Zlm:Notes:={ anns:=[],frz:=[],rgs:=[] }
def z10:CFn:=⟨sq ([
oo 1 (.box (.t 0)),
oo 2 (.mv (kb false))]) (
.seq (sq ([
oo 3 (fa 0 1),
ol 4 false 1 3]) (
.block 0 (sq ([
ob 6 .eql (.t 4) (ki 1),
om 5 6]) (
ct 5 (
sq ([
oo 2 (.mv (kb true))]) (
.ret)) (sq ([
ob 8 .eql (.t 4) (ki 2),
om 7 8]) (
ct 7 (
sq ([
oo 9 (fa 1 1),
ol 10 false 1 9,
ob 11 .eql (.t 10) (ki 0),
om 12 11,
oh 13 (fa 1 1) 12,
oh 14 (.ld false 1 (.t 13)) 12,
oh 15 (.bin .eql (.t 14) (ki 1)) 12,
oo 16 (.pick (.t 12) (kb true) (.t 15)),
om 2 16]) (
.ret)) (sq ([
ob 18 .eql (.t 4) (ki 7),
om 17 18]) (
ct 17 (
sq ([
oo 19 (fa 1 1),
ol 20 false 1 19,
ob 21 .geq (.t 20) (ki 1),
om 22 21,
og 23 (fa 1 1) 22,
og 24 (.ld false 1 (.t 23)) 22,
og 25 (.bin .leq (.t 24) (ki 13)) 22,
oo 26 (.pick (.t 22) (.t 25) (kb false)),
om 2 26]) (
.ret)) (.skip))))))))) (
sq ([
oo 27 (fa 1 1),
ol 28 false 1 27,
ob 29 .eql (.t 28) (ki 0),
om 2 29]) (
.ret))),[.slot 2]⟩
def Zln:Notes:={ anns:=[],frz:=[],rgs:=[] }
def z3f:CFn:=⟨sq ([
oo 1 (.box (.t 0)),
oo 2 (.mv (kb false))]) (
.seq (sq ([
oo 3 (fa 0 1),
ol 4 false 1 3]) (
.block 0 (sq ([
ob 6 .eql (.t 4) (ki 4),
om 5 6]) (
ct 5 (
sq ([
oo 2 (.mv (kb true))]) (
.ret)) (sq ([
ob 8 .eql (.t 4) (ki 5),
om 7 8]) (
ct 7 (
sq ([
oo 9 (fa 3 1),
ol 10 false 1 9,
oo 11 (.call 151 [.t 10,(.k (.d (.f 114 [] [])))] 4 true),
om 2 11]) (
.ret)) (sq ([
ob 13 .eql (.t 4) (ki 6),
om 12 13]) (
ct 12 (
sq ([
oo 14 (fa 3 1),
ol 15 false 1 14,
oo 16 (.call 141 [.t 15,(.k (.d (.f 152 [] [])))] 4 true),
oo 17 (.un .not (.t 16)),
om 18 17,
og 19 (fa 3 1) 18,
og 20 (.ld false 1 (.t 19)) 18,
og 21 (.call 151 [.t 20,(.k (.d (.f 154 [] [])))] 4 true) 18,
oo 22 (.pick (.t 18) (.t 21) (kb false)),
om 2 22]) (
.ret)) (.skip))))))))) (
sq ([
oo 23 (fa 3 1),
ol 24 false 1 23,
oo 25 (.len 0 (.t 24)),
ob 26 .eql (.t 25) (ki 0),
om 2 26]) (
.ret))),[.slot 2]⟩
def Zlo:Notes:={ anns:=[],frz:=[],rgs:=[] }
def Zfk:CFn:=⟨sq ([
oo 4 (.mv (kb false))]) (
sq ([
om 5 0,
om 6 1,
oo 7 (.call 155 [.t 5,.t 6] 4 true),
ob 8 .geq (.t 7) (ki 0),
om 4 8]) (
.ret)),[.slot 4]⟩
def Zlp:Notes:={ anns:=[],frz:=[],rgs:=[] }
def z8b:CFn:=⟨sq ([
oo 1 (.box (.t 0)),
oo 2 (.mv (kb false))]) (
sq ([
oo 3 (fa 0 1),
ol 4 false 1 3,
ob 5 .eql (.t 4) (ki 7),
om 6 5,
oh 7 (.ld true 4 (.t 1)) 6,
oh 8 (.call 125 [.t 7] 0 true) 6,
oh 9 (.un .not (.t 8)) 6,
oo 10 (.pick (.t 6) (kb true) (.t 9)),
om 2 10]) (
.ret)),[.slot 2]⟩
def Zlq:Notes:={ anns:=[],frz:=[],rgs:=[] }
def c143:CFn:=⟨sq ([
oo 2 (.mv (kb false))]) (
sq ([
om 3 0,
om 4 0,
ob 5 .neq (.t 3) (.t 4),
om 2 5]) (
.ret)),[.slot 2]⟩
def Zlr:Notes:={ anns:=[],frz:=[],rgs:=[] }
def Za5:CFn:=⟨sq ([
oo 2 (.mv (kb false))]) (
sq ([
om 3 0,
om 4 0,
ob 5 .neq (.t 3) (.t 4),
om 2 5]) (
.ret)),[.slot 2]⟩
def Zls:Notes:={ anns:=[],frz:=[],rgs:=[] }
def c145:CFn:=⟨sq ([
oo 2 (.mv (kb false))]) (
sq ([
om 3 0,
om 4 0,
ob 5 .neq (.t 3) (.t 4),
om 2 5]) (
.ret)),[.slot 2]⟩
def Zlt:Notes:={ anns:=[],frz:=[],rgs:=[] }
def z3g:CFn:=⟨sq ([
oo 4 (.box (.t 1)),
oo 6 (.mv (ki 0)),
oo 7 (.mv (kb false))]) (
sq ([
om 12 0,
oo 13 (.len 0 (.t 12)),
om 8 13]) (
sq ([
om 14 8,
oo 9 (.mv (ki 0)),
om 10 14]) (
.seq (.block 0 (.loop ⟨[0,2,4,8,9,10],[],[],[],[],true⟩ (.seq (sq ([
om 15 9,
om 16 10,
ob 17 .lss (.t 15) (.t 16)]) (
ct 17 (
.skip) (.exit 0))) (
.block 1 (sq ([
om 18 9,
om 19 10,
ob 20 .add (.t 18) (.t 19),
oo 21 (.conv .u64 (.t 20)),
oo 22 (.bin .shr (.t 21) (.k (.d (.i .u64 1)))),
oo 23 (.conv .i64 (.t 22)),
om 11 23]) (
.seq (.region true [
om 24 2,
om 25 0,
om 26 11,
ow 27 (.ia 4 (.t 25) (.t 26)) 6,
ow 28 (.ld true 4 (.t 27)) 14,
ol 29 true 4 4,
ow 30 (.callv (.t 24) [.t 28,.t 29] 4 true) 63,
ow 31 (.bin .lss (.t 30) (ki 0)) 127]) (
ct 31 (
.region false [
om 32 11,
ob 33 .add (.t 32) (ki 1),
om 9 33]) (.region false [
om 34 11,
om 10 34])))))))) (
.seq (.region true [
om 35 9,
om 36 9,
om 37 8,
ow 38 (.bin .lss (.t 36) (.t 37)) 6,
ow 39 (.mv (.t 38)) 14,
⟨some 40,.mv (.t 2),(some (39,true)),30⟩,
⟨some 41,.mv (.t 0),(some (39,true)),30⟩,
⟨some 42,.mv (.t 9),(some (39,true)),30⟩,
⟨some 43,.ia 4 (.t 41) (.t 42),(some (39,true)),222⟩,
⟨some 44,.ld true 4 (.t 43),(some (39,true)),478⟩,
⟨some 45,.ld true 4 (.t 4),(some (39,true)),30⟩,
⟨some 46,.callv (.t 40) [.t 44,.t 45] 4 true,(some (39,true)),2046⟩,
⟨some 47,.bin .eql (.t 46) (ki 0),(some (39,true)),4094⟩,
ow 48 (.pick (.t 39) (.t 47) (kb false)) 8190,
ow 6 (.mv (.t 35)) 4095,
ow 7 (.mv (.t 48)) 32767]) (
.ret))))),[.slot 6,.slot 7]⟩
def Zlu:Notes:={ anns:=[⟨[0,2,4,8,9,10],[],[],[],[],true⟩],frz:=[],rgs:=[] }
def z3h:CFn:=⟨sq ([
oo 6 (.mv (ki 0)),
oo 7 (.mv (kb false))]) (
sq ([
om 12 0,
oo 13 (.len 0 (.t 12)),
om 8 13]) (
sq ([
om 14 8,
oo 9 (.mv (ki 0)),
om 10 14]) (
.seq (.block 0 (.loop ⟨[0,1,2,8,9,10],[],[],[],[],true⟩ (.seq (sq ([
om 15 9,
om 16 10,
ob 17 .lss (.t 15) (.t 16)]) (
ct 17 (
.skip) (.exit 0))) (
.block 1 (sq ([
om 18 9,
om 19 10,
ob 20 .add (.t 18) (.t 19),
oo 21 (.conv .u64 (.t 20)),
oo 22 (.bin .shr (.t 21) (.k (.d (.i .u64 1)))),
oo 23 (.conv .i64 (.t 22)),
om 11 23]) (
sq ([
om 24 2,
om 25 0,
om 26 11,
oo 27 (.ia 4 (.t 25) (.t 26)),
ol 28 true 4 27,
om 29 1,
oo 30 (.callv (.t 24) [.t 28,.t 29] 4 true),
ob 31 .lss (.t 30) (ki 0)]) (
ct 31 (
.region false [
om 32 11,
ob 33 .add (.t 32) (ki 1),
om 9 33]) (.region false [
om 34 11,
om 10 34])))))))) (
sq ([
om 35 9,
om 36 9,
om 37 8,
ob 38 .lss (.t 36) (.t 37),
om 39 38,
og 40 (.mv (.t 2)) 39,
og 41 (.mv (.t 0)) 39,
og 42 (.mv (.t 9)) 39,
og 43 (.ia 4 (.t 41) (.t 42)) 39,
og 44 (.ld true 4 (.t 43)) 39,
og 45 (.mv (.t 1)) 39,
og 46 (.callv (.t 40) [.t 44,.t 45] 4 true) 39,
og 47 (.bin .eql (.t 46) (ki 0)) 39,
oo 48 (.pick (.t 39) (.t 47) (kb false)),
om 6 35,
om 7 48]) (
.ret))))),[.slot 6,.slot 7]⟩
def Zlv:Notes:={ anns:=[⟨[0,1,2,8,9,10],[],[],[],[],true⟩],frz:=[],rgs:=[] }
def z8c:CFn:=⟨sq ([
oo 4 (.mv (kb false))]) (
.seq (sq ([
om 6 0,
oo 7 (.len 0 (.t 6)),
oo 8 (.mv (ki 0))]) (
.block 0 (.loop ⟨[0,1,7,8],[],[],[],[],true⟩ (sq ([
ob 9 .lss (.t 8) (.t 7)]) (
.seq (ct 9 (
.skip) (.exit 0)) (
.seq (.block 1 (sq ([
om 10 8,
om 5 10]) (
.seq (.region true [
om 11 5,
ow 12 (.bin .gtr (.t 11) (ki 0)) 1,
ow 13 (.mv (.t 12)) 3,
⟨some 14,.mv (.t 1),(some (13,true)),7⟩,
⟨some 15,.mv (.t 0),(some (13,true)),7⟩,
⟨some 16,.mv (.t 5),(some (13,true)),7⟩,
⟨some 17,.bin .sub (.t 16) (ki 1),(some (13,true)),39⟩,
⟨some 18,.ia 4 (.t 15) (.t 17),(some (13,true)),119⟩,
⟨some 19,.ld true 4 (.t 18),(some (13,true)),247⟩,
⟨some 20,.mv (.t 0),(some (13,true)),7⟩,
⟨some 21,.mv (.t 5),(some (13,true)),7⟩,
⟨some 22,.ia 4 (.t 20) (.t 21),(some (13,true)),1543⟩,
⟨some 23,.ld true 4 (.t 22),(some (13,true)),3591⟩,
⟨some 24,.callv (.t 14) [.t 19,.t 23] 4 true,(some (13,true)),8191⟩,
⟨some 25,.bin .geq (.t 24) (ki 0),(some (13,true)),16383⟩,
ow 26 (.pick (.t 13) (.t 25) (kb false)) 32767]) (
ct 26 (
sq ([
oo 4 (.mv (kb false))]) (
.ret)) (.skip))))) (
.region false [
ob 27 .add (.t 8) (ki 1),
om 8 27]))))))) (
sq ([
oo 4 (.mv (kb true))]) (
.ret))),[.slot 4]⟩
def Zlw:Notes:={ anns:=[⟨[0,1,7,8],[],[],[],[],true⟩],frz:=[],rgs:=[] }
def Zfl:CFn:=⟨sq ([
oo 1 (.box (.t 0)),
oo 2 (.mv (kb false))]) (
sq ([
ol 3 true 4 1,
oo 4 (.call 153 [.t 3] 0 true),
oo 5 (.un .not (.t 4)),
om 2 5]) (
.ret)),[.slot 2]⟩
def Zlx:Notes:={ anns:=[],frz:=[],rgs:=[] }
def z6a:CFn:=⟨sq ([
oo 1 (.box (.t 0)),
oo 2 (.mv (kb false))]) (
sq ([
oo 3 (fa 0 1),
ol 4 false 1 3,
ob 5 .eql (.t 4) (ki 4),
om 6 5,
og 7 (fa 3 1) 6,
og 8 (.ld false 1 (.t 7)) 6,
og 9 (.len 0 (.t 8)) 6,
og 10 (.bin .eql (.t 9) (ki 2)) 6,
oo 11 (.pick (.t 6) (.t 10) (kb false)),
om 12 11,
og 13 (fa 3 1) 12,
og 14 (.ld false 1 (.t 13)) 12,
og 15 (.ia 4 (.t 14) (ki 0)) 12,
og 16 (fa 0 15) 12,
og 17 (.ld false 1 (.t 16)) 12,
og 18 (.bin .eql (.t 17) (ki 3)) 12,
oo 19 (.pick (.t 12) (.t 18) (kb false)),
om 2 19]) (
.ret)),[.slot 2]⟩
def Zly:Notes:={ anns:=[],frz:=[],rgs:=[] }
def Zfm:CFn:=⟨sq ([
oo 2 (.box (.t 0)),
oo 3 (.box (.t 1)),
oo 4 (.mv (ki 0))]) (
.seq (.region true [
ol 5 true 4 2,
ow 6 (.call 137 [.t 5] 0 true) 1,
ol 7 true 4 3,
ow 8 (.call 137 [.t 7] 0 true) 7,
ow 9 (.call 129 [.t 6,.t 8] 0 true) 15,
ow 4 (.mv (.t 9)) 31]) (
.ret)),[.slot 4]⟩
def Zlz:Notes:={ anns:=[],frz:=[],rgs:=[] }
def z6b:CFn:=⟨sq ([
oo 4 (.mv (ki 0))]) (
.seq (sq ([
om 6 0,
oo 7 (.len 0 (.t 6)),
oo 8 (.mv (ki 0))]) (
.block 0 (.loop ⟨[0,1,7,8],[],[],[],[],true⟩ (sq ([
ob 9 .lss (.t 8) (.t 7)]) (
.seq (ct 9 (
.skip) (.exit 0)) (
.seq (.block 1 (sq ([
om 10 8,
om 5 10]) (
sq ([
om 11 1,
om 12 0,
om 13 5,
oo 14 (.ia 4 (.t 12) (.t 13)),
ol 15 true 4 14,
oo 16 (.callv (.t 11) [.t 15] 4 true)]) (
ct 16 (
sq ([
om 17 5,
om 4 17]) (
.ret)) (.skip))))) (
.region false [
ob 18 .add (.t 8) (ki 1),
om 8 18]))))))) (
sq ([
oo 4 (.mv (.k (.d (.i .i64 (-1)))))]) (
.ret))),[.slot 4]⟩
def Zl0:Notes:={ anns:=[⟨[0,1,7,8],[],[],[],[],true⟩],frz:=[],rgs:=[] }
def c175:CFn:=⟨sq ([
oo 1 (.box (.t 0)),
oo 2 (.mv (.k (.nil 2)))]) (
.seq (sq ([
oo 5 (fa 0 1),
ol 6 false 1 5,
ob 7 .eql (.t 6) (ki 1)]) (
ct 7 (
sq ([
oo 8 (fa 5 1),
ol 9 false 1 8,
oo 10 (fa 6 1),
ol 11 false 1 10,
oo 12 (.build [(.d (.i .i64 0)),(.d (.i .i64 0))] [(0,1,.t 9),(1,1,.t 11)]),
oo 13 (.bsl 2 1 [(.i .i64 0),(.i .i64 0)] [(0,.t 12)]),
om 2 13]) (
.ret)) (.skip))) (
sq ([
oo 3 (.mv (.k (.nil 2)))]) (
.seq (sq ([
oo 4 (.mv (ki 0))]) (
.block 0 (.loop ⟨[1,3,4],[3],[],[],[],true⟩ (.seq (sq ([
om 14 4,
oo 15 (fa 7 1),
ol 16 false 1 15,
oo 17 (.len 0 (.t 16)),
ob 18 .lss (.t 14) (.t 17)]) (
ct 18 (
.skip) (.exit 0))) (
.seq (.block 1 (.region false [
om 21 3,
oo 22 (fa 7 1),
ol 23 false 1 22,
om 24 4,
oo 25 (.ia 8 (.t 23) (.t 24)),
ol 26 true 8 25,
oo 27 (.call 175 [.t 26] 0 true),
oo 28 (.app 2 16 (.t 21) (.t 27)),
om 3 28])) (
.region false [
om 19 4,
ob 20 .add (.t 19) (ki 1),
om 4 20])))))) (
sq ([
om 29 3,
om 2 29]) (
.ret))))),[.slot 2]⟩
def Zl1:Notes:={ anns:=[⟨[1,3,4],[3],[],[],[],true⟩],frz:=[],rgs:=[] }
def c192:CFn:=⟨sq ([
oo 1 (.box (.t 0)),
oo 2 (.mv (.k (.nil 2)))]) (
.seq (sq ([
oo 5 (fa 0 1),
ol 6 false 1 5,
ob 7 .eql (.t 6) (ki 1)]) (
ct 7 (
.region false [
om 8 2,
oo 9 (fa 5 1),
ol 10 false 1 9,
oo 11 (fa 6 1),
ol 12 false 1 11,
oo 13 (.build [(.d (.i .i64 0)),(.d (.i .i64 0))] [(0,1,.t 10),(1,1,.t 12)]),
oo 14 (.bsl 2 1 [(.i .i64 0),(.i .i64 0)] [(0,.t 13)]),
oo 15 (.app 2 16 (.t 8) (.t 14)),
om 2 15]) (.skip))) (
.seq (sq ([
oo 16 (fa 7 1),
ol 17 false 1 16,
oo 18 (.len 0 (.t 17)),
oo 19 (.mv (ki 0))]) (
.block 0 (.loop ⟨[2,17,18,19],[2],[],[],[],true⟩ (sq ([
ob 20 .lss (.t 19) (.t 18)]) (
.seq (ct 20 (
.skip) (.exit 0)) (
.seq (.block 1 (sq ([
oo 21 (.ia 8 (.t 17) (.t 19)),
ol 22 true 8 21,
oo 4 (.zero (.agg zE)),
oz (.st 8 (.t 4) (.t 22)) 0]) (
.region false [
om 23 2,
ol 24 true 8 4,
oo 25 (.call 192 [.t 24] 0 true),
oo 26 (.app 2 16 (.t 23) (.t 25)),
om 2 26]))) (
.region false [
ob 27 .add (.t 19) (ki 1),
om 19 27]))))))) (
sq ([
om 28 2,
om 2 28]) (
.ret)))),[.slot 2]⟩
def Zl2:Notes:={ anns:=[⟨[2,17,18,19],[2],[],[],[],true⟩],frz:=[],rgs:=[] }
def c210:CFn:=⟨sq ([
oo 1 (.box (.t 0)),
oo 2 (.mv (kb false))]) (
sq ([
ol 3 true 8 1,
oo 4 (.call 228 [.t 3,(ki 12)] 0 true),
om 2 4]) (
.ret)),[.slot 2]⟩
def Zl3:Notes:={ anns:=[],frz:=[],rgs:=[] }
def zyb:CFn:=⟨sq ([
oo 2 (.box (.t 0)),
oo 3 (.box (.t 1)),
oo 4 (.mv (kb false))]) (
sq ([
oo 6 (fa 0 2),
ol 7 false 1 6,
oo 8 (.call 236 [.t 7] 0 true),
om 5 8]) (
.seq (sq ([
ol 9 false 1 3,
ob 10 .lss (.t 9) (ki 1),
om 11 10,
oh 12 (.mv (.t 5)) 11,
oh 13 (.bin .eql (.t 12) (.k (.d (.i .i64 (-2))))) 11,
oo 14 (.pick (.t 11) (kb true) (.t 13)),
om 15 14,
oh 16 (.mv (.t 5)) 15,
oh 17 (.bin .geq (.t 16) (ki 0)) 15,
oh 18 (.mv (.t 17)) 15,
og 19 (fa 7 2) 18,
og 20 (.ld false 1 (.t 19)) 18,
og 21 (.len 0 (.t 20)) 18,
og 22 (.mv (.t 5)) 18,
og 23 (.bin .neq (.t 21) (.t 22)) 18,
oh 24 (.pick (.t 18) (.t 23) (kb false)) 15,
oo 25 (.pick (.t 15) (kb true) (.t 24)),
om 26 25,
oh 27 (fa 7 2) 26,
oh 28 (.ld false 1 (.t 27)) 26,
oh 29 (.len 0 (.t 28)) 26,
oh 30 (.bin .gtr (.t 29) (ki 4)) 26,
oo 31 (.pick (.t 26) (kb true) (.t 30)),
om 32 31,
oh 33 (.ld true 8 (.t 2)) 32,
oh 34 (.call 237 [.t 33] 0 true) 32,
oh 35 (.un .not (.t 34)) 32,
oo 36 (.pick (.t 32) (kb true) (.t 35))]) (
ct 36 (
sq ([
oo 4 (.mv (kb false))]) (
.ret)) (.skip))) (
sq ([
oo 37 (fa 7 2),
ol 38 false 1 37,
oo 39 (.mkf 238 [] [.t 3] true),
oo 40 (.call 229 [.t 38,.t 39] 4 true),
oo 41 (.un .not (.t 40)),
om 4 41]) (
.ret)))),[.slot 4]⟩
def Zl4:Notes:={ anns:=[],frz:=[0,0,0,0,0,0,0,0,0,0,0,0,0,0,0,0,0,0,0,0,0,0,0,0,0,0,0,0,0,0,0,0,0,0,0,0,0,0,1],rgs:=[] }
def Zjh:CFn:=⟨sq ([
oo 4 (.mv (kb false))]) (
sq ([
om 5 0,
om 6 1,
oo 7 (.call 239 [.t 5,.t 6] 4 true),
ob 8 .geq (.t 7) (ki 0),
om 4 8]) (
.ret)),[.slot 4]⟩
def Zl5:Notes:={ anns:=[],frz:=[],rgs:=[] }
def zsd:CFn:=⟨sq ([
oo 2 (.mv (ki 0))]) (
.seq (sq ([
om 3 0]) (
.block 0 (.seq (sq ([
ob 5 .eql (.t 3) (ki 0),
om 4 5]) (
ct 4 (
.skip) (sq ([
ob 6 .eql (.t 3) (ki 1),
om 4 6]) (
ct 4 (
.skip) (sq ([
ob 7 .eql (.t 3) (ki 2),
om 4 7]) (
ct 4 (
.skip) (sq ([
ob 8 .eql (.t 3) (ki 3),
om 4 8]) (
ct 4 (
.skip) (sq ([
ob 9 .eql (.t 3) (ki 21),
om 4 9]) (
ct 4 (
.skip) (.region false [
ob 10 .eql (.t 3) (ki 22),
om 4 10]))))))))))) (
ct 4 (
sq ([
oo 2 (.mv (ki 0))]) (
.ret)) (.seq (sq ([
ob 12 .eql (.t 3) (ki 11),
om 11 12]) (
ct 11 (
.skip) (.region false [
ob 13 .eql (.t 3) (ki 15),
om 11 13]))) (
ct 11 (
sq ([
oo 2 (.mv (ki 1))]) (
.ret)) (.seq (sq ([
ob 15 .eql (.t 3) (ki 12),
om 14 15]) (
ct 14 (
.skip) (.region false [
ob 16 .eql (.t 3) (ki 16),
om 14 16]))) (
ct 14 (
sq ([
oo 2 (.mv (ki 3))]) (
.ret)) (sq ([
ob 18 .eql (.t 3) (ki 14),
om 17 18]) (
ct 17 (
sq ([
oo 2 (.mv (.k (.d (.i .i64 (-1)))))]) (
.ret)) (.skip))))))))))) (
.seq (sq ([
om 19 0,
ob 20 .gtr (.t 19) (ki 3),
om 21 20,
og 22 (.mv (.t 0)) 21,
og 23 (.bin .lss (.t 22) (ki 21)) 21,
oo 24 (.pick (.t 21) (.t 23) (kb false))]) (
ct 24 (
sq ([
oo 2 (.mv (ki 2))]) (
.ret)) (.skip))) (
sq ([
oo 2 (.mv (.k (.d (.i .i64 (-2)))))]) (
.ret)))),[.slot 2]⟩
def Zl6:Notes:={ anns:=[],frz:=[],rgs:=[] }
def zjb:CFn:=⟨sq ([
oo 1 (.box (.t 0)),
oo 2 (.mv (kb false))]) (
.seq (sq ([
oo 5 (fa 0 1),
ol 6 false 1 5,
ob 7 .eql (.t 6) (ki 0)]) (
ct 7 (
sq ([
oo 8 (fa 1 1),
oo 9 (fa 0 8),
ol 10 false 1 9,
ob 11 .neq (.t 10) (ki 7),
om 12 11,
og 13 (fa 1 1) 12,
og 14 (.ld true 4 (.t 13)) 12,
og 15 (.call 111 [.t 14] 0 true) 12,
oo 16 (.pick (.t 12) (.t 15) (kb false)),
om 17 16,
og 18 (fa 5 1) 17,
og 19 (.ld false 1 (.t 18)) 17,
og 20 (.bin .eql (.t 19) (ki 0)) 17,
oo 21 (.pick (.t 17) (.t 20) (kb false)),
om 22 21,
og 23 (fa 6 1) 22,
og 24 (.ld false 1 (.t 23)) 22,
og 25 (.bin .eql (.t 24) (ki 0)) 22,
oo 26 (.pick (.t 22) (.t 25) (kb false)),
om 2 26]) (
.ret)) (.skip))) (
sq ([
oo 3 (.mv (ki 0)),
oo 4 (.mv (ki 0))]) (
.seq (sq ([
oo 27 (fa 0 1),
ol 28 false 1 27]) (
.block 0 (sq ([
ob 30 .eql (.t 28) (ki 1),
om 29 30]) (
ct 29 (
.region false [
oo 3 (.mv (ki 5)),
oo 4 (.mv (ki 7))]) (.seq (sq ([
ob 32 .eql (.t 28) (ki 2),
om 31 32]) (
ct 31 (
.skip) (.region false [
ob 33 .eql (.t 28) (ki 3),
om 31 33]))) (
ct 31 (
.region false [
oo 3 (.mv (ki 5))]) (.skip))))))) (
sq ([
oo 34 (fa 1 1),
ol 35 true 4 34,
oo 36 (.call 241 [.t 35] 0 true),
om 37 36,
og 38 (fa 5 1) 37,
og 39 (.ld false 1 (.t 38)) 37,
og 40 (.bin .geq (.t 39) (ki 0)) 37,
oo 41 (.pick (.t 37) (.t 40) (kb false)),
om 42 41,
og 43 (fa 5 1) 42,
og 44 (.ld false 1 (.t 43)) 42,
og 45 (.mv (.t 3)) 42,
og 46 (.bin .leq (.t 44) (.t 45)) 42,
oo 47 (.pick (.t 42) (.t 46) (kb false)),
om 48 47,
og 49 (fa 6 1) 48,
og 50 (.ld false 1 (.t 49)) 48,
og 51 (.bin .geq (.t 50) (ki 0)) 48,
oo 52 (.pick (.t 48) (.t 51) (kb false)),
om 53 52,
og 54 (fa 6 1) 53,
og 55 (.ld false 1 (.t 54)) 53,
og 56 (.mv (.t 4)) 53,
og 57 (.bin .leq (.t 55) (.t 56)) 53,
oo 58 (.pick (.t 53) (.t 57) (kb false)),
om 2 58]) (
.ret))))),[.slot 2]⟩
def Zl7:Notes:={ anns:=[],frz:=[],rgs:=[] }
def Zik:CFn:=⟨sq ([
oo 2 (.box (.t 0)),
oo 3 (.mv (kb false))]) (
sq ([
ol 4 true 8 2,
ol 5 false 1 1,
ob 6 .sub (.t 5) (ki 1),
oo 7 (.call 228 [.t 4,.t 6] 0 true),
oo 8 (.un .not (.t 7)),
om 3 8]) (
.ret)),[.slot 3]⟩
def Zl8:Notes:={ anns:=[],frz:=[],rgs:=[] }
def Zji:CFn:=⟨sq ([
oo 4 (.mv (ki 0))]) (
.seq (sq ([
om 6 0,
oo 7 (.len 0 (.t 6)),
oo 8 (.mv (ki 0))]) (
.block 0 (.loop ⟨[0,1,7,8],[],[],[],[],true⟩ (sq ([
ob 9 .lss (.t 8) (.t 7)]) (
.seq (ct 9 (
.skip) (.exit 0)) (
.seq (.block 1 (sq ([
om 10 8,
om 5 10]) (
sq ([
om 11 1,
om 12 0,
om 13 5,
oo 14 (.ia 8 (.t 12) (.t 13)),
ol 15 true 8 14,
oo 16 (.callv (.t 11) [.t 15] 4 true)]) (
ct 16 (
sq ([
om 17 5,
om 4 17]) (
.ret)) (.skip))))) (
.region false [
ob 18 .add (.t 8) (ki 1),
om 8 18]))))))) (
sq ([
oo 4 (.mv (.k (.d (.i .i64 (-1)))))]) (
.ret))),[.slot 4]⟩
def Zl9:Notes:={ anns:=[⟨[0,1,7,8],[],[],[],[],true⟩],frz:=[],rgs:=[] }
def z8d:CFn:=⟨sq ([
oo 1 (.box (.t 0)),
oo 2 (.mv (kb false))]) (
sq ([
oo 3 (fa 0 1),
ol 4 false 1 3,
ob 5 .eql (.t 4) (ki 0),
om 6 5,
og 7 (fa 1 1) 6,
og 8 (.ld false 1 (.t 7)) 6,
og 9 (.bin .eql (.t 8) (ki 0)) 6,
oo 10 (.pick (.t 6) (.t 9) (kb false)),
om 11 10,
og 12 (fa 2 1) 11,
og 13 (.ld false 1 (.t 12)) 11,
og 14 (.bin .eql (.t 13) (.k (.d (.s [])))) 11,
oo 15 (.pick (.t 11) (.t 14) (kb false)),
om 16 15,
og 17 (fa 3 1) 16,
og 18 (.ld false 1 (.t 17)) 16,
og 19 (.len 0 (.t 18)) 16,
og 20 (.bin .eql (.t 19) (ki 0)) 16,
oo 21 (.pick (.t 16) (.t 20) (kb false)),
om 2 21]) (
.ret)),[.slot 2]⟩
def Zma:Notes:={ anns:=[],frz:=[],rgs:=[] }
def zua:CFn:=⟨sq ([
oo 5 (.box (.t 2)),
oo 6 (.mv (kb false))]) (
.seq (sq ([
oo 14 (.call 264 [] 0 true),
oo 15 (.un .not (.t 14))]) (
ct 15 (
sq ([
oo 6 (.mv (kb false))]) (
.ret)) (.skip))) (
.seq (sq ([
om 16 0,
oo 17 (.len 0 (.t 16)),
ob 18 .gtr (.t 17) (ki 100),
om 19 18,
oh 20 (.mv (.t 1)) 19,
oh 21 (.len 0 (.t 20)) 19,
oh 22 (.bin .gtr (.t 21) (ki 100)) 19,
oo 23 (.pick (.t 19) (kb true) (.t 22)),
om 24 23,
oh 25 (.ld true 8 (.t 5)) 24,
oh 26 (.call 265 [.t 25,(ki 4)] 0 true) 24,
oh 27 (.un .not (.t 26)) 24,
oo 28 (.pick (.t 24) (kb true) (.t 27))]) (
ct 28 (
sq ([
oo 6 (.mv (kb true))]) (
.ret)) (.skip))) (
sq ([
om 30 1,
oo 31 (.call 266 [.t 30] 0 true),
om 29 31,
oo 32 (.ext (.t 29) 0),
oo 33 (.ext (.t 29) 1),
om 7 32,
om 8 33]) (
.seq (.region true [
ol 34 true 8 5,
om 35 0,
ow 36 (.call 108 [.t 35] 4 true) 2,
ow 37 (.call 267 [.t 36,(ki 4)] 4 true) 6,
ow 38 (.bsl 8 2 [(.i .i64 0),(.i .i64 0),(.i .i64 0),(.s []),(.l 4 []),(.i .i64 0),(.i .i64 0),(.l 8 [])] [(0,.t 34),(1,.t 37)]) 15,
ow 9 (.mv (.t 38)) 31]) (
.seq (sq ([
oo 10 (.mv (ki 0))]) (
.block 0 (.loop ⟨[7,8,9,10],[],[],[],[],true⟩ (.seq (sq ([
om 39 10,
ob 40 .lss (.t 39) (ki 2)]) (
ct 40 (
.skip) (.exit 0))) (
.seq (.block 1 (.seq (.region true [
om 43 9,
om 44 10,
ow 45 (.ia 8 (.t 43) (.t 44)) 3,
ow 46 (.ld true 8 (.t 45)) 7,
ow 47 (.call 192 [.t 46] 0 true) 15,
om 48 9,
om 49 10,
ow 50 (.ia 8 (.t 48) (.t 49)) 96,
ow 51 (.ld true 8 (.t 50)) 224,
ow 52 (.call 175 [.t 51] 0 true) 511,
ow 11 (.mv (.t 47)) 1023,
ow 12 (.mv (.t 52)) 2047]) (
.seq (.seq (.region true [
om 53 9,
om 54 10,
ow 55 (.ia 8 (.t 53) (.t 54)) 3,
ow 56 (.ld true 8 (.t 55)) 7,
ow 57 (.call 210 [.t 56] 0 true) 15,
om 58 9,
om 59 10,
ow 60 (.ia 8 (.t 58) (.t 59)) 96,
ow 61 (.ld true 8 (.t 60)) 224,
ow 62 (.call 268 [.t 61] 0 true) 511,
ow 63 (.eqb true (.t 57) (.t 62)) 1023]) (
ct 63 (
sq ([
oo 6 (.mv (kb false))]) (
.ret)) (.skip))) (
.seq (sq ([
om 64 9,
om 65 10,
oo 66 (.ia 8 (.t 64) (.t 65)),
ol 67 true 8 66,
oo 68 (.call 268 [.t 67] 0 true),
oo 69 (.un .not (.t 68))]) (
ct 69 (
.exit 1) (.skip))) (
.seq (sq ([
om 70 11,
oo 71 (.len 0 (.t 70)),
om 72 12,
oo 73 (.len 0 (.t 72)),
ob 74 .neq (.t 71) (.t 73)]) (
ct 74 (
sq ([
oo 6 (.mv (kb false))]) (
.ret)) (.skip))) (
.seq (sq ([
oo 13 (.mv (ki 0))]) (
.block 2 (.loop ⟨[7,8,9,10,11,12,13],[],[],[],[],true⟩ (.seq (sq ([
om 75 13,
om 76 12,
oo 77 (.len 0 (.t 76)),
ob 78 .lss (.t 75) (.t 77)]) (
ct 78 (
.skip) (.exit 2))) (
.seq (.block 3 (.seq (.region true [
om 81 11,
om 82 13,
ow 83 (.ia 2 (.t 81) (.t 82)) 3,
ow 84 (.ld true 2 (.t 83)) 7,
om 85 12,
om 86 13,
ow 87 (.ia 2 (.t 85) (.t 86)) 48,
ow 88 (.ld true 2 (.t 87)) 112,
ow 89 (.eqa [.i,.i] true (.t 84) (.t 88)) 255]) (
ct 89 (
sq ([
oo 6 (.mv (kb false))]) (
.ret)) (.skip)))) (
.region false [
om 79 13,
ob 80 .add (.t 79) (ki 1),
om 13 80])))))) (
.seq (.region true [
om 90 9,
om 91 10,
ow 92 (.ia 8 (.t 90) (.t 91)) 3,
ow 93 (.ld true 8 (.t 92)) 7,
ow 94 (.call 268 [.t 93] 0 true) 15,
ow 95 (.mv (.t 94)) 31,
⟨some 96,.mv (.t 9),(some (95,true)),63⟩,
⟨some 97,.mv (.t 10),(some (95,true)),63⟩,
⟨some 98,.ia 8 (.t 96) (.t 97),(some (95,true)),255⟩,
⟨some 99,.ld true 8 (.t 98),(some (95,true)),511⟩,
⟨some 100,.mv (.t 7),(some (95,true)),63⟩,
⟨some 101,.mv (.t 8),(some (95,true)),63⟩,
⟨some 102,.call 269 [.t 99,.t 100,.t 101] 0 true,(some (95,true)),4095⟩,
⟨some 103,.mv (.t 9),(some (95,true)),63⟩,
⟨some 104,.mv (.t 10),(some (95,true)),63⟩,
⟨some 105,.ia 8 (.t 103) (.t 104),(some (95,true)),24639⟩,
⟨some 106,.ld true 8 (.t 105),(some (95,true)),57407⟩,
⟨some 107,.mv (.t 7),(some (95,true)),63⟩,
⟨some 108,.mv (.t 8),(some (95,true)),63⟩,
⟨some 109,.call 270 [.t 106,.t 107,.t 108] 0 true,(some (95,true)),524287⟩,
⟨some 110,.call 121 [.t 102,.t 109] 0 true,(some (95,true)),1048575⟩,
⟨some 111,.un .not (.t 110),(some (95,true)),2097151⟩,
ow 112 (.pick (.t 95) (.t 111) (kb false)) 4194303]) (
ct 112 (
sq ([
oo 6 (.mv (kb false))]) (
.ret)) (.skip))))))))) (
.region false [
om 41 10,
ob 42 .add (.t 41) (ki 1),
om 10 42])))))) (
sq ([
om 113 9,
oo 114 (.ia 8 (.t 113) (ki 1)),
ol 115 true 8 114,
oo 116 (.call 210 [.t 115] 0 true),
om 6 116]) (
.ret))))))),[.slot 6]⟩
def Zmb:Notes:={ anns:=[⟨[7,8,9,10],[],[],[],[],true⟩,⟨[7,8,9,10,11,12,13],[],[],[],[],true⟩],frz:=[],rgs:=[] }
def Zjj:CFn:=⟨sq ([
oo 0 (.mv (kb false))]) (
sq ([
oo 6 (.build zV [(0,1,(ki 1)),(1,1,(ki 2))]),
oo 7 (.build zE [(1,4,.t 6)]),
oo 1 (.zero (.agg zE)),
oz (.st 8 (.t 1) (.t 7)) 0]) (
sq ([
ol 8 true 8 1,
oo 9 (.build zE [(0,1,(ki 1)),(5,1,(ki 1))]),
oo 10 (.bsl 8 2 [(.i .i64 0),(.i .i64 0),(.i .i64 0),(.s []),(.l 4 []),(.i .i64 0),(.i .i64 0),(.l 8 [])] [(0,.t 8),(1,.t 9)]),
oo 11 (.build zE [(0,1,(ki 4)),(7,1,.t 10)]),
oo 2 (.zero (.agg zE)),
oz (.st 8 (.t 2) (.t 11)) 0]) (
sq ([
ol 12 true 8 2,
oo 13 (.build zV [(0,1,(ki 1)),(1,1,(ki 3))]),
oo 14 (.bsl 4 1 [(.i .i64 0),(.i .i64 0),(.s []),(.l 4 [])] [(0,.t 13)]),
oo 15 (.bsl 1 2 [(.l 4 [])] [(0,(.k (.nil 4))),(1,.t 14)]),
oo 16 (.call 269 [.t 12,.t 15,(.k (.nil 1))] 0 true),
oo 3 (.zero (.agg zV)),
oz (.st 4 (.t 3) (.t 16)) 0]) (
sq ([
oo 17 (.build zE [(0,1,(ki 3)),(5,1,(ki 0))]),
oo 18 (.bsl 1 1 [(.s [])] [(0,(.k (.d (.s [49,50]))))]),
oo 19 (.call 269 [.t 17,(.k (.nil 1)),(.t 18)] 0 true),
oo 4 (.zero (.agg zV)),
oz (.st 4 (.t 4) (.t 19)) 0]) (
sq ([
ol 20 true 8 2,
oo 21 (.call 192 [.t 20] 0 true),
om 5 21]) (
sq ([
ol 22 true 8 2,
oo 23 (.call 210 [.t 22] 0 true),
om 24 23,
og 25 (.build zE []) 24,
og 26 (.call 210 [.t 25] 0 true) 24,
og 27 (.un .not (.t 26)) 24,
oo 28 (.pick (.t 24) (.t 27) (kb false)),
om 29 28,
og 30 (fa 0 3) 29,
og 31 (.ld false 1 (.t 30)) 29,
og 32 (.bin .eql (.t 31) (ki 1)) 29,
oo 33 (.pick (.t 29) (.t 32) (kb false)),
om 34 33,
og 35 (fa 1 3) 34,
og 36 (.ld false 1 (.t 35)) 34,
og 37 (.bin .eql (.t 36) (ki 5)) 34,
oo 38 (.pick (.t 34) (.t 37) (kb false)),
om 39 38,
og 40 (fa 1 4) 39,
og 41 (.ld false 1 (.t 40)) 39,
og 42 (.bin .eql (.t 41) (ki 12)) 39,
oo 43 (.pick (.t 39) (.t 42) (kb false)),
om 44 43,
og 45 (.mv (.t 5)) 44,
og 46 (.len 0 (.t 45)) 44,
og 47 (.bin .eql (.t 46) (ki 1)) 44,
oo 48 (.pick (.t 44) (.t 47) (kb false)),
om 49 48,
og 50 (.mv (.t 5)) 49,
og 51 (.ia 2 (.t 50) (ki 0)) 49,
og 52 (.ld true 2 (.t 51)) 49,
og 53 (.build [(.d (.i .i64 0)),(.d (.i .i64 0))] [(0,1,(ki 1)),(1,1,(ki 0))]) 49,
og 54 (.eqa [.i,.i] false (.t 52) (.t 53)) 49,
oo 55 (.pick (.t 49) (.t 54) (kb false)),
om 0 55]) (
.ret))))))),[.slot 0]⟩
def Zmc:Notes:={ anns:=[],frz:=[],rgs:=[] }
def zyc:CFn:=⟨sq ([
oo 2 (.box (.t 0)),
oo 4 (.mv (kb false))]) (
.seq (sq ([
om 6 1,
ob 7 .lss (.t 6) (ki 1),
om 8 7,
oh 9 (fa 7 2) 8,
oh 10 (.ld false 1 (.t 9)) 8,
oh 11 (.len 0 (.t 10)) 8,
oh 12 (.bin .gtr (.t 11) (ki 5)) 8,
oo 13 (.pick (.t 8) (kb true) (.t 12)),
om 14 13,
oh 15 (fa 1 2) 14,
oh 16 (.ld true 4 (.t 15)) 14,
oh 17 (.call 107 [.t 16,(ki 4)] 0 true) 14,
oh 18 (.un .not (.t 17)) 14,
oo 19 (.pick (.t 14) (kb true) (.t 18))]) (
ct 19 (
sq ([
oo 4 (.mv (kb false))]) (
.ret)) (.skip))) (
.seq (sq ([
oo 5 (.mv (ki 0))]) (
.block 0 (.loop ⟨[1,2,5],[],[],[],[],true⟩ (.seq (sq ([
om 20 5,
oo 21 (fa 7 2),
ol 22 false 1 21,
oo 23 (.len 0 (.t 22)),
ob 24 .lss (.t 20) (.t 23)]) (
ct 24 (
.skip) (.exit 0))) (
.seq (.block 1 (sq ([
oo 27 (fa 7 2),
ol 28 false 1 27,
om 29 5,
oo 30 (.ia 8 (.t 28) (.t 29)),
ol 31 true 8 30,
om 32 1,
ob 33 .sub (.t 32) (ki 1),
oo 34 (.call 265 [.t 31,.t 33] 0 true),
oo 35 (.un .not (.t 34))]) (
ct 35 (
sq ([
oo 4 (.mv (kb false))]) (
.ret)) (.skip)))) (
.region false [
om 25 5,
ob 26 .add (.t 25) (ki 1),
om 5 26])))))) (
sq ([
oo 4 (.mv (kb true))]) (
.ret)))),[.slot 4]⟩
def Zmd:Notes:={ anns:=[⟨[1,2,5],[],[],[],[],true⟩],frz:=[],rgs:=[] }
def zyd:CFn:=⟨sq ([
oo 2 (.mv (.k (.nil 1))),
oo 3 (.mv (.k (.nil 1)))]) (
sq ([
om 10 0,
oo 11 (.call 108 [.t 10] 4 true),
om 4 11]) (
sq ([
oo 5 (.mv (.k (.nil 1)))]) (
.seq (sq ([
oo 6 (.mv (ki 0))]) (
.block 0 (.loop ⟨[4,5,6],[5],[],[],[],true⟩ (.seq (sq ([
om 12 6,
ob 13 .lss (.t 12) (ki 3)]) (
ct 13 (
.skip) (.exit 0))) (
.seq (.block 1 (sq ([
oo 7 (.mv (.k (.nil 4)))]) (
.seq (sq ([
oo 8 (.mv (ki 0))]) (
.block 2 (.loop ⟨[4,5,6,7,8],[7],[],[],[],true⟩ (.seq (sq ([
om 16 8,
ob 17 .lss (.t 16) (ki 3)]) (
ct 17 (
.skip) (.exit 2))) (
.seq (.block 3 (sq ([
om 20 4,
oo 21 (.call 109 [.t 20,(ki 2)] 4 true),
oo 9 (.zero (.agg zV)),
oz (.st 4 (.t 9) (.t 21)) 0]) (
.seq (sq ([
om 22 4,
oo 23 (.call 123 [.t 22,(ki 9)] 4 true),
ob 24 .eql (.t 23) (ki 1)]) (
ct 24 (
.region false [
om 25 4,
oo 26 (.call 123 [.t 25,(ki 13)] 4 true),
ob 27 .add (ki 1) (.t 26),
oo 28 (.build zV [(0,1,(ki 7)),(1,1,.t 27)]),
oz (.st 4 (.t 9) (.t 28)) 0]) (.skip))) (
.region false [
om 29 7,
ol 30 true 4 9,
oo 31 (.bsl 4 1 [(.i .i64 0),(.i .i64 0),(.s []),(.l 4 [])] [(0,.t 30)]),
oo 32 (.app 4 56 (.t 29) (.t 31)),
om 7 32])))) (
.region false [
om 18 8,
ob 19 .add (.t 18) (ki 1),
om 8 19])))))) (
.region false [
om 33 5,
om 34 7,
oo 35 (.bsl 1 1 [(.l 4 [])] [(0,.t 34)]),
oo 36 (.app 1 24 (.t 33) (.t 35)),
om 5 36])))) (
.region false [
om 14 6,
ob 15 .add (.t 14) (ki 1),
om 6 15])))))) (
.seq (.region true [
om 37 5,
oo 38 (.bsl 1 4 [(.s [])] [(0,(.k (.d (.s [])))),(1,(.k (.d (.s [57,57,57,57,57,57,57,57,57,57,57,57,57,57,57,57,57,57])))),(2,(.k (.d (.s [49,50,51,52,53,54,55,56,57,48,49,50,51,52,53,54,55,56,57])))),(3,(.k (.d (.s [48,48,55]))))]),
om 39 4,
ow 40 (.call 123 [.t 39,(ki 4)] 4 true) 4,
ow 41 (.ia 1 (.t 38) (.t 40)) 14,
ow 42 (.ld false 1 (.t 41)) 30,
ow 43 (.bsl 1 3 [(.s [])] [(0,(.k (.d (.s [49,50])))),(1,(.k (.d (.s [120])))),(2,.t 42)]) 62,
ow 2 (.mv (.t 37)) 13,
ow 3 (.mv (.t 43)) 255]) (
.ret))))),[.slot 2,.slot 3]⟩
def Zme:Notes:={ anns:=[⟨[4,5,6],[5],[],[],[],true⟩,⟨[4,5,6,7,8],[7],[],[],[],true⟩],frz:=[],rgs:=[] }
def zou:CFn:=⟨sq ([
oo 4 (.zero (.agg zE))]) (
sq ([
om 9 0,
oo 10 (.call 123 [.t 9,(ki 30)] 4 true),
om 5 10]) (
.seq (.block 0 (sq ([
om 12 1,
ob 13 .leq (.t 12) (ki 1),
om 14 13,
oh 15 (.mv (.t 5)) 14,
oh 16 (.bin .lss (.t 15) (ki 6)) 14,
oo 17 (.pick (.t 14) (kb true) (.t 16)),
om 11 17]) (
ct 11 (
sq ([
om 18 0,
oo 19 (.call 274 [.t 18] 4 true),
oz (.st 8 (.t 4) (.t 19)) 0]) (
.ret)) (sq ([
om 21 5,
ob 22 .lss (.t 21) (ki 12),
om 20 22]) (
ct 20 (
sq ([
om 23 0,
oo 24 (.call 123 [.t 23,(ki 3)] 4 true),
ob 25 .add (ki 4) (.t 24),
om 26 0,
om 27 1,
ob 28 .sub (.t 27) (ki 1),
oo 29 (.call 267 [.t 26,.t 28] 4 true),
om 30 0,
om 31 1,
ob 32 .sub (.t 31) (ki 1),
oo 33 (.call 267 [.t 30,.t 32] 4 true),
oo 34 (.bsl 8 2 [(.i .i64 0),(.i .i64 0),(.i .i64 0),(.s []),(.l 4 []),(.i .i64 0),(.i .i64 0),(.l 8 [])] [(0,.t 29),(1,.t 33)]),
oo 35 (.build zE [(0,1,.t 25),(7,1,.t 34)]),
oz (.st 8 (.t 4) (.t 35)) 0]) (
.ret)) (.skip)))))) (
sq ([
om 36 0,
oo 37 (.call 123 [.t 36,(ki 16)] 4 true),
ob 38 .add (ki 7) (.t 37),
oo 39 (.build zE [(0,1,.t 38)]),
oo 6 (.zero (.agg zE)),
oz (.st 8 (.t 6) (.t 39)) 0]) (
sq ([
oo 7 (.mv (ki 2))]) (
.seq (sq ([
oo 40 (fa 0 6),
ol 41 false 1 40]) (
.block 1 (.seq (sq ([
ob 43 .eql (.t 41) (ki 21),
om 42 43]) (
ct 42 (
.skip) (.region false [
ob 44 .eql (.t 41) (ki 22),
om 42 44]))) (
ct 42 (
.region false [
oo 7 (.mv (ki 0))]) (.seq (sq ([
ob 46 .eql (.t 41) (ki 11),
om 45 46]) (
ct 45 (
.skip) (.region false [
ob 47 .eql (.t 41) (ki 15),
om 45 47]))) (
ct 45 (
.region false [
oo 7 (.mv (ki 1))]) (.seq (sq ([
ob 49 .eql (.t 41) (ki 12),
om 48 49]) (
ct 48 (
.skip) (.region false [
ob 50 .eql (.t 41) (ki 16),
om 48 50]))) (
ct 48 (
.region false [
oo 7 (.mv (ki 3))]) (sq ([
ob 52 .eql (.t 41) (ki 14),
om 51 52]) (
ct 51 (
.region false [
om 53 0,
oo 54 (.call 123 [.t 53,(ki 4)] 4 true),
om 7 54]) (.skip))))))))))) (
.seq (sq ([
oo 8 (.mv (ki 0))]) (
.block 2 (.loop ⟨[0,1,4,6,7,8],[],[(6,7)],[],[],true⟩ (.seq (sq ([
om 55 8,
om 56 7,
ob 57 .lss (.t 55) (.t 56)]) (
ct 57 (
.skip) (.exit 2))) (
.seq (.block 3 (.region true [
oo 60 (fa 7 6),
ow 61 (.ld false 1 (.t 60)) 1,
om 62 0,
om 63 1,
ow 64 (.bin .sub (.t 63) (ki 1)) 8,
ow 65 (.call 267 [.t 62,.t 64] 4 true) 28,
ow 66 (.bsl 8 1 [(.i .i64 0),(.i .i64 0),(.i .i64 0),(.s []),(.l 4 []),(.i .i64 0),(.i .i64 0),(.l 8 [])] [(0,.t 65)]) 60,
ow 67 (.app 8 104 (.t 61) (.t 66)) 127,
ow 68 (fa 7 6) 255,
oz (.st 1 (.t 68) (.t 67)) 511])) (
.region false [
om 58 8,
ob 59 .add (.t 58) (ki 1),
om 8 59])))))) (
sq ([
ol 69 true 8 6,
oz (.st 8 (.t 4) (.t 69)) 0]) (
.ret)))))))),[.cell 4 true 8]⟩
def Zmf:Notes:={ anns:=[⟨[0,1,4,6,7,8],[],[(6,7)],[],[],true⟩],frz:=[],rgs:=[] }
def c268:CFn:=⟨sq ([
oo 1 (.box (.t 0)),
oo 2 (.mv (kb false))]) (
sq ([
ol 3 true 8 1,
oo 4 (.call 275 [.t 3,(ki 12)] 0 true),
om 2 4]) (
.ret)),[.slot 2]⟩
def Zmg:Notes:={ anns:=[],frz:=[],rgs:=[] }
def c269:CFn:=⟨sq ([
oo 3 (.box (.t 0)),
oo 6 (.zero (.agg zV))]) (
sq ([
om 7 1,
om 8 2,
oo 9 (.build [(.nil 1),(.nil 1)] [(0,1,.t 7),(1,1,.t 8)]),
ol 10 true 8 3,
oo 11 (.call 277 [.t 9,.t 10] 0 true),
oo 12 (.call 276 [.t 11] 0 true),
oz (.st 4 (.t 6) (.t 12)) 0]) (
.ret)),[.cell 6 true 4]⟩
def Zmh:Notes:={ anns:=[],frz:=[],rgs:=[] }
def c270:CFn:=⟨sq ([
oo 3 (.box (.t 0)),
oo 6 (.zero (.agg zV))]) (
sq ([
oo 14 (fa 0 3),
ol 15 false 1 14,
oo 16 (.call 278 [.t 15] 0 true),
om 13 16,
oo 17 (.ext (.t 13) 0),
oo 18 (.ext (.t 13) 1),
om 7 17,
om 8 18]) (
.seq (sq ([
om 19 8,
oo 20 (.un .not (.t 19)),
om 21 20,
oh 22 (fa 7 3) 21,
oh 23 (.ld false 1 (.t 22)) 21,
oh 24 (.len 0 (.t 23)) 21,
oh 25 (.mv (.t 7)) 21,
oh 26 (.bin .lss (.t 24) (.t 25)) 21,
oo 27 (.pick (.t 21) (kb true) (.t 26))]) (
ct 27 (
sq ([
oo 28 (.call 279 [(ki 1)] 0 true),
oz (.st 4 (.t 6) (.t 28)) 0]) (
.ret)) (.skip))) (
.seq (sq ([
oo 29 (fa 0 3),
ol 30 false 1 29]) (
.block 0 (sq ([
ob 32 .eql (.t 30) (ki 0),
om 31 32]) (
ct 31 (
sq ([
oo 33 (fa 1 3),
ol 34 true 4 33,
oz (.st 4 (.t 6) (.t 34)) 0]) (
.ret)) (sq ([
ob 36 .eql (.t 30) (ki 1),
om 35 36]) (
ct 35 (
.seq (.seq (.region true [
oo 37 (fa 5 3),
ow 38 (.ld false 1 (.t 37)) 1,
ow 39 (.bin .lss (.t 38) (ki 0)) 3,
ow 40 (.mv (.t 39)) 7,
⟨some 41,.fa 5 (.t 3),(some (40,false)),15⟩,
⟨some 42,.ld false 1 (.t 41),(some (40,false)),31⟩,
⟨some 43,.mv (.t 1),(some (40,false)),15⟩,
⟨some 44,.len 0 (.t 43),(some (40,false)),79⟩,
⟨some 45,.bin .geq (.t 42) (.t 44),(some (40,false)),255⟩,
ow 46 (.pick (.t 40) (kb true) (.t 45)) 511,
ow 47 (.mv (.t 46)) 1023,
⟨some 48,.fa 6 (.t 3),(some (47,false)),2047⟩,
⟨some 49,.ld false 1 (.t 48),(some (47,false)),4095⟩,
⟨some 50,.bin .lss (.t 49) (ki 0),(some (47,false)),8191⟩,
ow 51 (.pick (.t 47) (kb true) (.t 50)) 16383,
ow 52 (.mv (.t 51)) 32767,
⟨some 53,.fa 6 (.t 3),(some (52,false)),65535⟩,
⟨some 54,.ld false 1 (.t 53),(some (52,false)),131071⟩,
⟨some 55,.mv (.t 1),(some (52,false)),65535⟩,
⟨some 56,.fa 5 (.t 3),(some (52,false)),65535⟩,
⟨some 57,.ld false 1 (.t 56),(some (52,false)),589823⟩,
⟨some 58,.ia 1 (.t 55) (.t 57),(some (52,false)),1900543⟩,
⟨some 59,.ld false 1 (.t 58),(some (52,false)),3997695⟩,
⟨some 60,.len 0 (.t 59),(some (52,false)),8191999⟩,
⟨some 61,.bin .geq (.t 54) (.t 60),(some (52,false)),16777215⟩,
ow 62 (.pick (.t 52) (kb true) (.t 61)) 33554431]) (
ct 62 (
sq ([
oo 63 (.call 279 [(ki 7)] 0 true),
oz (.st 4 (.t 6) (.t 63)) 0]) (
.ret)) (.skip))) (
.seq (.region true [
om 64 1,
oo 65 (fa 5 3),
ow 66 (.ld false 1 (.t 65)) 2,
ow 67 (.ia 1 (.t 64) (.t 66)) 7,
ow 68 (.ld false 1 (.t 67)) 15,
oo 69 (fa 6 3),
ow 70 (.ld false 1 (.t 69)) 32,
ow 71 (.ia 4 (.t 68) (.t 70)) 127,
ow 72 (.ld true 4 (.t 71)) 255,
oz (.st 4 (.t 6) (.t 72)) 511]) (
.ret))) (.seq (sq ([
ob 74 .eql (.t 30) (ki 2),
om 73 74]) (
ct 73 (
.skip) (.region false [
ob 75 .eql (.t 30) (ki 3),
om 73 75]))) (
ct 73 (
.seq (sq ([
oo 76 (fa 5 3),
ol 77 false 1 76,
ob 78 .lss (.t 77) (ki 0),
om 79 78,
oh 80 (fa 5 3) 79,
oh 81 (.ld false 1 (.t 80)) 79,
oh 82 (.mv (.t 2)) 79,
oh 83 (.len 0 (.t 82)) 79,
oh 84 (.bin .geq (.t 81) (.t 83)) 79,
oo 85 (.pick (.t 79) (kb true) (.t 84))]) (
ct 85 (
sq ([
oo 86 (.call 279 [(ki 7)] 0 true),
oz (.st 4 (.t 6) (.t 86)) 0]) (
.ret)) (.skip))) (
.seq (sq ([
oo 87 (fa 0 3),
ol 88 false 1 87,
ob 89 .eql (.t 88) (ki 2)]) (
ct 89 (
sq ([
om 90 2,
oo 91 (fa 5 3),
ol 92 false 1 91,
oo 93 (.ia 1 (.t 90) (.t 92)),
ol 94 false 1 93,
oo 95 (.build zV [(0,1,(ki 3)),(2,1,.t 94)]),
oo 96 (.call 280 [.t 95] 0 true),
oz (.st 4 (.t 6) (.t 96)) 0]) (
.ret)) (.skip))) (
sq ([
om 97 2,
oo 98 (fa 5 3),
ol 99 false 1 98,
oo 100 (.ia 1 (.t 97) (.t 99)),
ol 101 false 1 100,
oo 102 (.call 281 [.t 101] 0 true),
oz (.st 4 (.t 6) (.t 102)) 0]) (
.ret)))) (sq ([
ob 104 .eql (.t 30) (ki 12),
om 103 104]) (
ct 103 (
sq ([
oo 105 (fa 7 3),
ol 106 false 1 105,
oo 107 (.ia 8 (.t 106) (ki 0)),
ol 108 true 8 107,
om 109 1,
om 110 2,
oo 111 (.call 270 [.t 108,.t 109,.t 110] 0 true),
oo 9 (.zero (.agg zV)),
oz (.st 4 (.t 9) (.t 111)) 0]) (
.seq (.block 1 (sq ([
oo 113 (fa 0 9),
ol 114 false 1 113,
ob 115 .eql (.t 114) (ki 7),
om 112 115]) (
ct 112 (
sq ([
ol 116 true 4 9,
oz (.st 4 (.t 6) (.t 116)) 0]) (
.ret)) (sq ([
oo 118 (fa 0 9),
ol 119 false 1 118,
ob 120 .neq (.t 119) (ki 2),
om 117 120]) (
ct 117 (
sq ([
oo 121 (.call 279 [(ki 4)] 0 true),
oz (.st 4 (.t 6) (.t 121)) 0]) (
.ret)) (sq ([
oo 123 (fa 1 9),
ol 124 false 1 123,
ob 125 .neq (.t 124) (ki 0),
om 122 125]) (
ct 122 (
sq ([
oo 126 (fa 7 3),
ol 127 false 1 126,
oo 128 (.ia 8 (.t 127) (ki 1)),
ol 129 true 8 128,
om 130 1,
om 131 2,
oo 132 (.call 270 [.t 129,.t 130,.t 131] 0 true),
oz (.st 4 (.t 6) (.t 132)) 0]) (
.ret)) (.skip)))))))) (
sq ([
oo 133 (fa 7 3),
ol 134 false 1 133,
oo 135 (.ia 8 (.t 134) (ki 2)),
ol 136 true 8 135,
om 137 1,
om 138 2,
oo 139 (.call 270 [.t 136,.t 137,.t 138] 0 true),
oz (.st 4 (.t 6) (.t 139)) 0]) (
.ret)))) (.skip))))))))))) (
sq ([
oo 10 (.mv (.k (.nil 4)))]) (
.seq (sq ([
oo 11 (.mv (ki 0))]) (
.block 2 (.loop ⟨[1,2,3,6,10,11],[10],[],[],[(6,3)],true⟩ (.seq (sq ([
om 140 11,
oo 141 (fa 7 3),
ol 142 false 1 141,
oo 143 (.len 0 (.t 142)),
ob 144 .lss (.t 140) (.t 143)]) (
ct 144 (
.skip) (.exit 2))) (
.seq (.block 3 (sq ([
oo 147 (fa 7 3),
ol 148 false 1 147,
om 149 11,
oo 150 (.ia 8 (.t 148) (.t 149)),
ol 151 true 8 150,
om 152 1,
om 153 2,
oo 154 (.call 270 [.t 151,.t 152,.t 153] 0 true),
oo 12 (.zero (.agg zV)),
oz (.st 4 (.t 12) (.t 154)) 0]) (
.seq (sq ([
oo 155 (fa 0 12),
ol 156 false 1 155,
ob 157 .eql (.t 156) (ki 7)]) (
ct 157 (
sq ([
ol 158 true 4 12,
oz (.st 4 (.t 6) (.t 158)) 0]) (
.ret)) (.skip))) (
.region false [
om 159 10,
ol 160 true 4 12,
oo 161 (.bsl 4 1 [(.i .i64 0),(.i .i64 0),(.s []),(.l 4 [])] [(0,.t 160)]),
oo 162 (.app 4 56 (.t 159) (.t 161)),
om 10 162])))) (
.region false [
om 145 11,
ob 146 .add (.t 145) (ki 1),
om 11 146])))))) (
sq ([
oo 163 (fa 0 3),
ol 164 false 1 163,
om 165 10,
oo 166 (.call 282 [.t 164,.t 165] 0 true),
oo 167 (.call 280 [.t 166] 0 true),
oz (.st 4 (.t 6) (.t 167)) 0]) (
.ret))))))),[.cell 6 true 4]⟩
def Zmi:Notes:={ anns:=[⟨[1,2,3,6,10,11],[10],[],[],[(6,3)],true⟩],frz:=[],rgs:=[] }
def z6c:CFn:=⟨sq ([
oo 2 (.zero (.agg zE))]) (
.seq (sq ([
om 3 0,
oo 4 (.call 123 [.t 3,(ki 6)] 4 true)]) (
.block 0 (sq ([
ob 6 .eql (.t 4) (ki 0),
om 5 6]) (
ct 5 (
sq ([
om 7 0,
oo 8 (.call 123 [.t 7,(ki 4)] 4 true),
om 9 0,
oo 10 (.call 123 [.t 9,(ki 3)] 4 true),
oo 11 (.build zE [(0,1,(ki 1)),(5,1,.t 8),(6,1,.t 10)]),
oz (.st 8 (.t 2) (.t 11)) 0]) (
.ret)) (sq ([
ob 13 .eql (.t 4) (ki 1),
om 12 13]) (
ct 12 (
sq ([
om 14 0,
oo 15 (.call 123 [.t 14,(ki 2)] 4 true),
ob 16 .add (ki 2) (.t 15),
om 17 0,
oo 18 (.call 123 [.t 17,(ki 3)] 4 true),
oo 19 (.build zE [(0,1,.t 16),(5,1,.t 18)]),
oz (.st 8 (.t 2) (.t 19)) 0]) (
.ret)) (sq ([
ob 21 .eql (.t 4) (ki 2),
om 20 21]) (
ct 20 (
sq ([
om 22 0,
oo 23 (.call 123 [.t 22,(ki 2)] 4 true),
ob 24 .add (ki 21) (.t 23),
oo 25 (.build zE [(0,1,.t 24)]),
oz (.st 8 (.t 2) (.t 25)) 0]) (
.ret)) (.skip))))))))) (
sq ([
om 26 0,
oo 27 (.call 109 [.t 26,(ki 2)] 4 true),
oo 28 (.build zE [(0,1,(ki 0)),(1,4,.t 27)]),
oz (.st 8 (.t 2) (.t 28)) 0]) (
.ret))),[.cell 2 true 8]⟩
def Zmj:Notes:={ anns:=[],frz:=[],rgs:=[] }
def zfr:CFn:=⟨sq ([
oo 2 (.box (.t 0)),
oo 4 (.mv (kb false))]) (
sq ([
oo 11 (fa 0 2),
ol 12 false 1 11,
oo 13 (.call 278 [.t 12] 0 true),
om 10 13,
oo 14 (.ext (.t 10) 0),
oo 15 (.ext (.t 10) 1),
om 5 14,
om 6 15]) (
.seq (sq ([
om 16 6,
oo 17 (.un .not (.t 16)),
om 18 17,
oh 19 (.mv (.t 1)) 18,
oh 20 (.bin .lss (.t 19) (ki 1)) 18,
oo 21 (.pick (.t 18) (kb true) (.t 20)),
om 22 21,
oh 23 (.mv (.t 5)) 22,
oh 24 (.bin .geq (.t 23) (ki 0)) 22,
oh 25 (.mv (.t 24)) 22,
og 26 (fa 7 2) 25,
og 27 (.ld false 1 (.t 26)) 25,
og 28 (.len 0 (.t 27)) 25,
og 29 (.mv (.t 5)) 25,
og 30 (.bin .neq (.t 28) (.t 29)) 25,
oh 31 (.pick (.t 25) (.t 30) (kb false)) 22,
oo 32 (.pick (.t 22) (kb true) (.t 31)),
om 33 32,
oh 34 (fa 7 2) 33,
oh 35 (.ld false 1 (.t 34)) 33,
oh 36 (.len 0 (.t 35)) 33,
oh 37 (.bin .gtr (.t 36) (ki 4)) 33,
oo 38 (.pick (.t 33) (kb true) (.t 37))]) (
ct 38 (
sq ([
oo 4 (.mv (kb false))]) (
.ret)) (.skip))) (
.seq (sq ([
oo 7 (.mv (ki 0))]) (
.block 0 (.loop ⟨[1,2,7],[],[],[],[],true⟩ (.seq (sq ([
om 39 7,
oo 40 (fa 7 2),
ol 41 false 1 40,
oo 42 (.len 0 (.t 41)),
ob 43 .lss (.t 39) (.t 42)]) (
ct 43 (
.skip) (.exit 0))) (
.seq (.block 1 (sq ([
oo 46 (fa 7 2),
ol 47 false 1 46,
om 48 7,
oo 49 (.ia 8 (.t 47) (.t 48)),
ol 50 true 8 49,
om 51 1,
ob 52 .sub (.t 51) (ki 1),
oo 53 (.call 275 [.t 50,.t 52] 0 true),
oo 54 (.un .not (.t 53))]) (
ct 54 (
sq ([
oo 4 (.mv (kb false))]) (
.ret)) (.skip)))) (
.region false [
om 44 7,
ob 45 .add (.t 44) (ki 1),
om 7 45])))))) (
sq ([
oo 55 (fa 1 2),
oo 56 (fa 0 55),
ol 57 false 1 56,
ob 58 .eql (.t 57) (ki 0),
om 59 58,
og 60 (fa 1 2) 59,
og 61 (fa 1 60) 59,
og 62 (.ld false 1 (.t 61)) 59,
og 63 (.bin .eql (.t 62) (ki 0)) 59,
oo 64 (.pick (.t 59) (.t 63) (kb false)),
om 65 64,
og 66 (fa 1 2) 65,
og 67 (fa 2 66) 65,
og 68 (.ld false 1 (.t 67)) 65,
og 69 (.bin .eql (.t 68) (.k (.d (.s [])))) 65,
oo 70 (.pick (.t 65) (.t 69) (kb false)),
om 71 70,
og 72 (fa 1 2) 71,
og 73 (fa 3 72) 71,
og 74 (.ld false 1 (.t 73)) 71,
og 75 (.len 0 (.t 74)) 71,
og 76 (.bin .eql (.t 75) (ki 0)) 71,
oo 77 (.pick (.t 71) (.t 76) (kb false)),
om 8 77]) (
.seq (sq ([
oo 78 (fa 0 2),
ol 79 false 1 78,
ob 80 .eql (.t 79) (ki 0)]) (
ct 80 (
.region false [
oo 81 (fa 1 2),
ol 82 true 4 81,
oo 83 (.call 110 [.t 82] 0 true),
om 84 83,
og 85 (fa 1 2) 84,
og 86 (fa 0 85) 84,
og 87 (.ld false 1 (.t 86)) 84,
og 88 (.bin .neq (.t 87) (ki 7)) 84,
oo 89 (.pick (.t 84) (.t 88) (kb false)),
om 8 89]) (.skip))) (
sq ([
oo 90 (fa 0 2),
ol 91 false 1 90,
ob 92 .eql (.t 91) (ki 1),
om 93 92,
oh 94 (fa 0 2) 93,
oh 95 (.ld false 1 (.t 94)) 93,
oh 96 (.bin .eql (.t 95) (ki 2)) 93,
oo 97 (.pick (.t 93) (kb true) (.t 96)),
om 98 97,
oh 99 (fa 0 2) 98,
oh 100 (.ld false 1 (.t 99)) 98,
oh 101 (.bin .eql (.t 100) (ki 3)) 98,
oo 102 (.pick (.t 98) (kb true) (.t 101)),
om 9 102]) (
sq ([
om 103 8,
om 104 103,
og 105 (fa 5 2) 104,
og 106 (.ld false 1 (.t 105)) 104,
og 107 (.bin .geq (.t 106) (ki 0)) 104,
oo 108 (.pick (.t 104) (.t 107) (kb false)),
om 109 108,
og 110 (fa 5 2) 109,
og 111 (.ld false 1 (.t 110)) 109,
og 112 (.bin .leq (.t 111) (ki 5)) 109,
oo 113 (.pick (.t 109) (.t 112) (kb false)),
om 114 113,
og 115 (.mv (.t 9)) 114,
og 116 (.mv (.t 115)) 114,
oh 117 (fa 5 2) 116,
oh 118 (.ld false 1 (.t 117)) 116,
oh 119 (.bin .eql (.t 118) (ki 0)) 116,
og 120 (.pick (.t 116) (kb true) (.t 119)) 114,
oo 121 (.pick (.t 114) (.t 120) (kb false)),
om 122 121,
og 123 (fa 6 2) 122,
og 124 (.ld false 1 (.t 123)) 122,
og 125 (.bin .geq (.t 124) (ki 0)) 122,
oo 126 (.pick (.t 122) (.t 125) (kb false)),
om 127 126,
og 128 (fa 6 2) 127,
og 129 (.ld false 1 (.t 128)) 127,
og 130 (.bin .lss (.t 129) (ki 8)) 127,
oo 131 (.pick (.t 127) (.t 130) (kb false)),
om 132 131,
og 133 (fa 0 2) 132,
og 134 (.ld false 1 (.t 133)) 132,
og 135 (.bin .eql (.t 134) (ki 1)) 132,
og 136 (.mv (.t 135)) 132,
oh 137 (fa 6 2) 136,
oh 138 (.ld false 1 (.t 137)) 136,
oh 139 (.bin .eql (.t 138) (ki 0)) 136,
og 140 (.pick (.t 136) (kb true) (.t 139)) 132,
oo 141 (.pick (.t 132) (.t 140) (kb false)),
om 4 141]) (
.ret)))))))),[.slot 4]⟩
def Zmk:Notes:={ anns:=[⟨[1,2,7],[],[],[],[],true⟩],frz:=[],rgs:=[] }
def Za6:CFn:=⟨sq ([
oo 1 (.box (.t 0)),
oo 2 (.zero (.agg zV))]) (
sq ([
oo 6 (fa 3 1),
ol 7 false 1 6,
oo 8 (.call 146 [.t 7] 4 false),
om 3 8]) (
.seq (sq ([
om 9 3,
oo 10 (.len 0 (.t 9)),
oo 11 (.mv (ki 0))]) (
.block 0 (.loop ⟨[1,2,3,9,10,11],[],[],[],[],true⟩ (sq ([
ob 12 .lss (.t 11) (.t 10)]) (
.seq (ct 12 (
.skip) (.exit 0)) (
.seq (.block 1 (sq ([
om 13 11,
oo 14 (.ia 4 (.t 9) (.t 11)),
ol 15 true 4 14,
oo 5 (.zero (.agg zV)),
om 4 13,
oz (.st 4 (.t 5) (.t 15)) 0]) (
.region false [
om 16 3,
om 17 4,
ol 18 true 4 5,
oo 19 (.call 276 [.t 18] 0 true),
oo 20 (.ia 4 (.t 16) (.t 17)),
oz (.st 4 (.t 20) (.t 19)) 0]))) (
.region false [
ob 21 .add (.t 11) (ki 1),
om 11 21]))))))) (
sq ([
om 22 3,
oo 23 (fa 3 1),
oz (.st 1 (.t 23) (.t 22)) 0]) (
sq ([
ol 24 true 4 1,
oz (.st 4 (.t 2) (.t 24)) 0]) (
.ret))))),[.cell 2 true 4]⟩
def Zml:Notes:={ anns:=[⟨[1,2,3,9,10,11],[],[],[],[],true⟩],frz:=[0,0,0,0,1],rgs:=[] }
def zrq:CFn:=⟨sq ([
oo 2 (.box (.t 0)),
oo 3 (.box (.t 1)),
oo 4 (.zero (.agg zV))]) (
sq ([
oo 11 (fa 0 3),
ol 12 false 1 11,
oo 13 (.call 236 [.t 12] 0 true),
om 5 13]) (
.seq (.block 0 (sq ([
om 44 5,
oo 45 (.bin .eql (.t 44) (.k (.d (.i .i64 (-2))))),
om 46 45,
oh 47 (fa 7 3) 46,
oh 48 (.ld false 1 (.t 47)) 46,
oh 49 (.len 0 (.t 48)) 46,
oh 50 (.mv (.t 5)) 46,
oh 51 (.bin .lss (.t 49) (.t 50)) 46,
oo 52 (.pick (.t 46) (kb true) (.t 51)),
om 43 52]) (
ct 43 (
sq ([
oo 53 (.call 283 [(ki 1)] 0 true),
oz (.st 4 (.t 4) (.t 53)) 0]) (
.ret)) (sq ([
oo 55 (fa 0 3),
ol 56 false 1 55,
ob 57 .eql (.t 56) (ki 0),
om 54 57]) (
ct 54 (
.region false [
oo 58 (fa 1 3),
ol 59 true 4 58,
oz (.st 4 (.t 4) (.t 59)) 0]) (sq ([
oo 61 (fa 0 3),
ol 62 false 1 61,
ob 63 .eql (.t 62) (ki 1),
om 60 63]) (
ct 60 (
.region false [
ol 64 true 2 2,
ol 65 true 8 3,
oo 66 (.call 284 [.t 64,.t 65] 0 true),
oz (.st 4 (.t 4) (.t 66)) 0]) (sq ([
oo 68 (fa 0 3),
ol 69 false 1 68,
ob 70 .eql (.t 69) (ki 2),
om 71 70,
oh 72 (fa 0 3) 71,
oh 73 (.ld false 1 (.t 72)) 71,
oh 74 (.bin .eql (.t 73) (ki 3)) 71,
oo 75 (.pick (.t 71) (kb true) (.t 74)),
om 67 75]) (
ct 67 (
.region false [
ol 76 true 2 2,
ol 77 true 8 3,
oo 78 (.call 285 [.t 76,.t 77] 0 true),
oz (.st 4 (.t 4) (.t 78)) 0]) (sq ([
oo 80 (fa 0 3),
ol 81 false 1 80,
ob 82 .eql (.t 81) (ki 12),
om 79 82]) (
ct 79 (
.region false [
ol 83 true 2 2,
ol 84 true 8 3,
oo 85 (.call 286 [.t 83,.t 84] 0 true),
oz (.st 4 (.t 4) (.t 85)) 0]) (sq ([
oo 14 (fa 7 3),
ol 15 false 1 14,
om 6 15]) (
.seq (sq ([
om 16 5,
ob 17 .geq (.t 16) (ki 0)]) (
ct 17 (
.region false [
om 18 6,
om 19 5,
oo 20 (.slc 8 (.t 18) none (some (.t 19))),
om 6 20]) (.skip))) (
sq ([
oo 7 (.mv (.k (.nil 4)))]) (
.seq (sq ([
om 21 6,
oo 22 (.len 0 (.t 21)),
oo 23 (.mv (ki 0))]) (
.block 1 (.loop ⟨[2,3,4,7,21,22,23],[7],[],[],[(4,3)],true⟩ (sq ([
ob 24 .lss (.t 23) (.t 22)]) (
.seq (ct 24 (
.skip) (.exit 1)) (
.seq (.block 2 (sq ([
oo 25 (.ia 8 (.t 21) (.t 23)),
ol 26 true 8 25,
oo 9 (.zero (.agg zE)),
oz (.st 8 (.t 9) (.t 26)) 0]) (
sq ([
ol 27 true 2 2,
ol 28 true 8 9,
oo 29 (.call 277 [.t 27,.t 28] 0 true),
oo 10 (.zero (.agg zV)),
oz (.st 4 (.t 10) (.t 29)) 0]) (
.seq (sq ([
oo 30 (fa 0 10),
ol 31 false 1 30,
ob 32 .eql (.t 31) (ki 7)]) (
ct 32 (
sq ([
ol 33 true 4 10,
oz (.st 4 (.t 4) (.t 33)) 0]) (
.ret)) (.skip))) (
.region false [
om 34 7,
ol 35 true 4 10,
oo 36 (.bsl 4 1 [(.i .i64 0),(.i .i64 0),(.s []),(.l 4 [])] [(0,.t 35)]),
oo 37 (.app 4 56 (.t 34) (.t 36)),
om 7 37]))))) (
.region false [
ob 38 .add (.t 23) (ki 1),
om 23 38]))))))) (
.region false [
oo 39 (fa 0 3),
ol 40 false 1 39,
om 41 7,
oo 42 (.call 287 [.t 40,.t 41] 0 true),
oz (.st 4 (.t 4) (.t 42)) 0])))))))))))))))) (
.seq (sq ([
ol 86 true 4 4,
oo 87 (.call 112 [.t 86] 0 true),
ob 88 .gtr (.t 87) (ki 60)]) (
ct 88 (
sq ([
oo 89 (.call 283 [(ki 6)] 0 true),
oz (.st 4 (.t 4) (.t 89)) 0]) (
.ret)) (.skip))) (
sq ([
ol 90 true 4 4,
oz (.st 4 (.t 4) (.t 90)) 0]) (
.ret))))),[.cell 4 true 4]⟩
def Zmm:Notes:={ anns:=[⟨[2,3,4,7,21,22,23],[7],[],[],[(4,3)],true⟩],frz:=[],rgs:=[] }
def zov:CFn:=⟨sq ([
oo 2 (.mv (ki 0)),
oo 3 (.mv (kb false))]) (
.seq (sq ([
om 4 0]) (
.block 0 (.seq (sq ([
ob 6 .eql (.t 4) (ki 0),
om 5 6]) (
ct 5 (
.skip) (sq ([
ob 7 .eql (.t 4) (ki 1),
om 5 7]) (
ct 5 (
.skip) (sq ([
ob 8 .eql (.t 4) (ki 2),
om 5 8]) (
ct 5 (
.skip) (sq ([
ob 9 .eql (.t 4) (ki 3),
om 5 9]) (
ct 5 (
.skip) (sq ([
ob 10 .eql (.t 4) (ki 21),
om 5 10]) (
ct 5 (
.skip) (.region false [
ob 11 .eql (.t 4) (ki 22),
om 5 11]))))))))))) (
ct 5 (
sq ([
oo 2 (.mv (ki 0)),
oo 3 (.mv (kb true))]) (
.ret)) (.seq (sq ([
ob 13 .eql (.t 4) (ki 11),
om 12 13]) (
ct 12 (
.skip) (.region false [
ob 14 .eql (.t 4) (ki 15),
om 12 14]))) (
ct 12 (
sq ([
oo 2 (.mv (ki 1)),
oo 3 (.mv (kb true))]) (
.ret)) (.seq (sq ([
ob 16 .eql (.t 4) (ki 12),
om 15 16]) (
ct 15 (
.skip) (.region false [
ob 17 .eql (.t 4) (ki 16),
om 15 17]))) (
ct 15 (
sq ([
oo 2 (.mv (ki 3)),
oo 3 (.mv (kb true))]) (
.ret)) (sq ([
ob 19 .eql (.t 4) (ki 14),
om 18 19]) (
ct 18 (
sq ([
oo 2 (.mv (.k (.d (.i .i64 (-1))))),
oo 3 (.mv (kb true))]) (
.ret)) (.skip))))))))))) (
sq ([
om 20 0,
ob 21 .gtr (.t 20) (ki 0),
om 22 21,
og 23 (.mv (.t 0)) 22,
og 24 (.bin .leq (.t 23) (ki 22)) 22,
oo 25 (.pick (.t 22) (.t 24) (kb false)),
oo 2 (.mv (ki 2)),
om 3 25]) (
.ret))),[.slot 2,.slot 3]⟩
def Zmn:Notes:={ anns:=[],frz:=[],rgs:=[] }
def zw6:CFn:=⟨sq ([
oo 2 (.zero (.agg zV))]) (
sq ([
om 3 0,
oo 4 (.build zV [(0,1,(ki 7)),(1,1,.t 3)]),
oz (.st 4 (.t 2) (.t 4)) 0]) (
.ret)),[.cell 2 true 4]⟩
def Zmo:Notes:={ anns:=[],frz:=[],rgs:=[] }
def Za7:CFn:=⟨sq ([
oo 1 (.box (.t 0)),
oo 2 (.zero (.agg zV))]) (
.seq (sq ([
ol 3 true 4 1,
oo 4 (.call 113 [.t 3] 0 true),
ob 5 .gtr (.t 4) (ki 60)]) (
ct 5 (
sq ([
oo 6 (.call 279 [(ki 6)] 0 true),
oz (.st 4 (.t 2) (.t 6)) 0]) (
.ret)) (.skip))) (
sq ([
ol 7 true 4 1,
oz (.st 4 (.t 2) (.t 7)) 0]) (
.ret))),[.cell 2 true 4]⟩
def Zmp:Notes:={ anns:=[],frz:=[],rgs:=[] }
def zye:CFn:=⟨sq ([
oo 2 (.zero (.agg zV))]) (
.seq (sq ([
om 5 0,
oo 6 (.len 1 (.t 5)),
ob 7 .lss (.t 6) (ki 1),
om 8 7,
oh 9 (.mv (.t 0)) 8,
oh 10 (.len 1 (.t 9)) 8,
oh 11 (.bin .gtr (.t 10) (ki 18)) 8,
oo 12 (.pick (.t 8) (kb true) (.t 11))]) (
ct 12 (
sq ([
oo 13 (.call 279 [(ki 2)] 0 true),
oz (.st 4 (.t 2) (.t 13)) 0]) (
.ret)) (.skip))) (
sq ([
oo 3 (.mv (ki 0))]) (
.seq (sq ([
oo 4 (.mv (ki 0))]) (
.block 0 (.loop ⟨[0,2,3,4],[],[],[],[(2,3)],true⟩ (.seq (sq ([
om 14 4,
om 15 0,
oo 16 (.len 1 (.t 15)),
ob 17 .lss (.t 14) (.t 16)]) (
ct 17 (
.skip) (.exit 0))) (
.seq (.block 1 (.seq (sq ([
om 20 0,
om 21 4,
oo 22 (.ixs (.t 20) (.t 21)),
oo 23 (.bin .lss (.t 22) (.k (.d (.i .u8 48)))),
om 24 23,
oh 25 (.mv (.t 0)) 24,
oh 26 (.mv (.t 4)) 24,
oh 27 (.ixs (.t 25) (.t 26)) 24,
oh 28 (.bin .gtr (.t 27) (.k (.d (.i .u8 57)))) 24,
oo 29 (.pick (.t 24) (kb true) (.t 28))]) (
ct 29 (
sq ([
oo 30 (.call 279 [(ki 2)] 0 true),
oz (.st 4 (.t 2) (.t 30)) 0]) (
.ret)) (.skip))) (
.region false [
om 31 3,
ob 32 .mul (.t 31) (ki 10),
om 33 0,
om 34 4,
oo 35 (.ixs (.t 33) (.t 34)),
oo 36 (.bin .sub (.t 35) (.k (.d (.i .u8 48)))),
oo 37 (.conv .i64 (.t 36)),
ob 38 .add (.t 32) (.t 37),
om 3 38]))) (
.region false [
om 18 4,
ob 19 .add (.t 18) (ki 1),
om 4 19])))))) (
sq ([
om 39 3,
oo 40 (.build zV [(0,1,(ki 1)),(1,1,.t 39)]),
oz (.st 4 (.t 2) (.t 40)) 0]) (
.ret))))),[.cell 2 true 4]⟩
def Zmq:Notes:={ anns:=[⟨[0,2,3,4],[],[],[],[(2,3)],true⟩],frz:=[],rgs:=[] }
def zg0:CFn:=⟨sq ([
oo 4 (.zero (.agg zV))]) (
.seq (sq ([
om 5 0]) (
.block 0 (sq ([
ob 7 .eql (.t 5) (ki 14),
om 6 7]) (
ct 6 (
sq ([
om 8 1,
oo 9 (.build zV [(0,1,(ki 4)),(3,1,.t 8)]),
oz (.st 4 (.t 4) (.t 9)) 0]) (
.ret)) (sq ([
ob 11 .eql (.t 5) (ki 21),
om 10 11]) (
ct 10 (
sq ([
oo 12 (.build zV [(0,1,(ki 5))]),
oz (.st 4 (.t 4) (.t 12)) 0]) (
.ret)) (sq ([
ob 14 .eql (.t 5) (ki 22),
om 13 14]) (
ct 13 (
sq ([
oo 15 (.build zV [(0,1,(ki 6))]),
oz (.st 4 (.t 4) (.t 15)) 0]) (
.ret)) (sq ([
ob 17 .eql (.t 5) (ki 7),
om 16 17]) (
ct 16 (
.seq (.region true [
om 18 1,
ow 19 (.ia 4 (.t 18) (ki 0)) 1,
ow 20 (.ld true 4 (.t 19)) 3,
om 21 1,
ow 22 (.ia 4 (.t 21) (ki 1)) 8,
ow 23 (.ld true 4 (.t 22)) 24,
ow 24 (.call 121 [.t 20,.t 23] 0 true) 63,
ow 25 (.call 288 [.t 24] 0 true) 127,
oz (.st 4 (.t 4) (.t 25)) 255]) (
.ret)) (sq ([
ob 27 .eql (.t 5) (ki 8),
om 26 27]) (
ct 26 (
.seq (.region true [
om 28 1,
ow 29 (.ia 4 (.t 28) (ki 0)) 1,
ow 30 (.ld true 4 (.t 29)) 3,
om 31 1,
ow 32 (.ia 4 (.t 31) (ki 1)) 8,
ow 33 (.ld true 4 (.t 32)) 24,
ow 34 (.call 115 [.t 30,.t 33] 0 true) 63,
ow 35 (.bin .lss (.t 34) (ki 0)) 127,
ow 36 (.call 288 [.t 35] 0 true) 255,
oz (.st 4 (.t 4) (.t 36)) 511]) (
.ret)) (.seq (sq ([
ob 38 .eql (.t 5) (ki 4),
om 37 38]) (
ct 37 (
.skip) (sq ([
ob 39 .eql (.t 5) (ki 5),
om 37 39]) (
ct 37 (
.skip) (.region false [
ob 40 .eql (.t 5) (ki 6),
om 37 40]))))) (
ct 37 (
sq ([
om 41 1,
oo 42 (.call 289 [.t 41,(ki 1)] 0 true)]) (
ct 42 (
.seq (.region true [
om 43 0,
om 44 1,
ow 45 (.ia 4 (.t 44) (ki 0)) 2,
ow 46 (fa 1 45) 6,
ow 47 (.ld false 1 (.t 46)) 14,
om 48 1,
ow 49 (.ia 4 (.t 48) (ki 1)) 32,
ow 50 (fa 1 49) 96,
ow 51 (.ld false 1 (.t 50)) 224,
ow 52 (.call 290 [.t 43,.t 47,.t 51] 0 true) 511,
oz (.st 4 (.t 4) (.t 52)) 1023]) (
.ret)) (.skip))) (.seq (sq ([
ob 54 .eql (.t 5) (ki 9),
om 53 54]) (
ct 53 (
.skip) (sq ([
ob 55 .eql (.t 5) (ki 10),
om 53 55]) (
ct 53 (
.skip) (.region false [
ob 56 .eql (.t 5) (ki 11),
om 53 56]))))) (
ct 53 (
.seq (sq ([
om 57 1,
oo 58 (.call 289 [.t 57,(ki 2)] 0 true),
oo 59 (.un .not (.t 58))]) (
ct 59 (
sq ([
oo 60 (.call 279 [(ki 4)] 0 true),
oz (.st 4 (.t 4) (.t 60)) 0]) (
.ret)) (.skip))) (
.seq (sq ([
om 61 0,
ob 62 .eql (.t 61) (ki 11)]) (
ct 62 (
sq ([
om 63 1,
oo 64 (.ia 4 (.t 63) (ki 0)),
oo 65 (fa 1 64),
ol 66 false 1 65,
ob 67 .eql (.t 66) (ki 0),
oo 68 (.call 288 [.t 67] 0 true),
oz (.st 4 (.t 4) (.t 68)) 0]) (
.ret)) (.skip))) (
.seq (sq ([
om 69 0,
ob 70 .eql (.t 69) (ki 9)]) (
ct 70 (
sq ([
om 71 1,
oo 72 (.ia 4 (.t 71) (ki 0)),
oo 73 (fa 1 72),
ol 74 false 1 73,
ob 75 .eql (.t 74) (ki 1),
om 76 75,
og 77 (.mv (.t 1)) 76,
og 78 (.ia 4 (.t 77) (ki 1)) 76,
og 79 (fa 1 78) 76,
og 80 (.ld false 1 (.t 79)) 76,
og 81 (.bin .eql (.t 80) (ki 1)) 76,
oo 82 (.pick (.t 76) (.t 81) (kb false)),
oo 83 (.call 288 [.t 82] 0 true),
oz (.st 4 (.t 4) (.t 83)) 0]) (
.ret)) (.skip))) (
sq ([
om 84 1,
oo 85 (.ia 4 (.t 84) (ki 0)),
oo 86 (fa 1 85),
ol 87 false 1 86,
ob 88 .eql (.t 87) (ki 1),
om 89 88,
oh 90 (.mv (.t 1)) 89,
oh 91 (.ia 4 (.t 90) (ki 1)) 89,
oh 92 (fa 1 91) 89,
oh 93 (.ld false 1 (.t 92)) 89,
oh 94 (.bin .eql (.t 93) (ki 1)) 89,
oo 95 (.pick (.t 89) (kb true) (.t 94)),
oo 96 (.call 288 [.t 95] 0 true),
oz (.st 4 (.t 4) (.t 96)) 0]) (
.ret))))) (sq ([
ob 98 .eql (.t 5) (ki 13),
om 97 98]) (
ct 97 (
.seq (sq ([
om 99 1,
oo 100 (.call 289 [.t 99,(ki 3)] 0 true)]) (
ct 100 (
.seq (.region true [
om 101 1,
ow 102 (.ia 4 (.t 101) (ki 0)) 1,
ow 103 (fa 2 102) 3,
ow 104 (.ld false 1 (.t 103)) 7,
om 105 1,
ow 106 (.ia 4 (.t 105) (ki 1)) 16,
ow 107 (fa 2 106) 48,
ow 108 (.ld false 1 (.t 107)) 112,
ow 109 (.bin .add (.t 104) (.t 108)) 255,
ow 110 (.build zV [(0,1,(ki 3)),(2,1,.t 109)]) 511,
oz (.st 4 (.t 4) (.t 110)) 1023]) (
.ret)) (.skip))) (
sq ([
om 111 1,
oo 112 (.call 289 [.t 111,(ki 4)] 0 true)]) (
ct 112 (
.seq (.region true [
oo 113 (.bsl 4 0 [(.i .i64 0),(.i .i64 0),(.s []),(.l 4 [])] []),
om 114 1,
ow 115 (.ia 4 (.t 114) (ki 0)) 2,
ow 116 (fa 3 115) 6,
ow 117 (.ld false 1 (.t 116)) 14,
ow 118 (.app 4 56 (.t 113) (.t 117)) 31,
om 119 1,
ow 120 (.ia 4 (.t 119) (ki 1)) 64,
ow 121 (fa 3 120) 192,
ow 122 (.ld false 1 (.t 121)) 448,
ow 123 (.app 4 56 (.t 118) (.t 122)) 1023,
ow 124 (.build zV [(0,1,(ki 4)),(3,1,.t 123)]) 2047,
oz (.st 4 (.t 4) (.t 124)) 4095]) (
.ret)) (.skip)))) (sq ([
ob 126 .eql (.t 5) (ki 15),
om 125 126]) (
ct 125 (
.seq (sq ([
om 127 1,
oo 128 (.ia 4 (.t 127) (ki 0)),
oo 129 (fa 0 128),
ol 130 false 1 129,
ob 131 .eql (.t 130) (ki 3)]) (
ct 131 (
sq ([
om 132 1,
oo 133 (.ia 4 (.t 132) (ki 0)),
oo 134 (fa 2 133),
ol 135 false 1 134,
oo 136 (.len 1 (.t 135)),
oo 137 (.build zV [(0,1,(ki 1)),(1,1,.t 136)]),
oz (.st 4 (.t 4) (.t 137)) 0]) (
.ret)) (.skip))) (
sq ([
om 138 1,
oo 139 (.ia 4 (.t 138) (ki 0)),
oo 140 (fa 0 139),
ol 141 false 1 140,
ob 142 .geq (.t 141) (ki 4),
om 143 142,
og 144 (.mv (.t 1)) 143,
og 145 (.ia 4 (.t 144) (ki 0)) 143,
og 146 (fa 0 145) 143,
og 147 (.ld false 1 (.t 146)) 143,
og 148 (.bin .leq (.t 147) (ki 6)) 143,
oo 149 (.pick (.t 143) (.t 148) (kb false))]) (
ct 149 (
sq ([
om 150 1,
oo 151 (.ia 4 (.t 150) (ki 0)),
oo 152 (fa 3 151),
ol 153 false 1 152,
oo 154 (.len 0 (.t 153)),
oo 155 (.build zV [(0,1,(ki 1)),(1,1,.t 154)]),
oz (.st 4 (.t 4) (.t 155)) 0]) (
.ret)) (.skip)))) (sq ([
ob 157 .eql (.t 5) (ki 19),
om 156 157]) (
ct 156 (
sq ([
om 158 1,
oo 159 (.ia 4 (.t 158) (ki 0)),
oo 160 (fa 0 159),
ol 161 false 1 160,
ob 162 .eql (.t 161) (ki 5)]) (
ct 162 (
.seq (.region true [
om 163 1,
ow 164 (.ia 4 (.t 163) (ki 0)) 1,
ow 165 (fa 3 164) 3,
ow 166 (.ld false 1 (.t 165)) 7,
om 167 1,
ow 168 (.ia 4 (.t 167) (ki 1)) 16,
ow 169 (.ld true 4 (.t 168)) 48,
ow 170 (.call 117 [.t 166,.t 169] 0 true) 127,
ow 171 (.build zV [(0,1,(ki 5)),(3,1,.t 170)]) 255,
oz (.st 4 (.t 4) (.t 171)) 511]) (
.ret)) (.skip))) (sq ([
ob 173 .eql (.t 5) (ki 20),
om 172 173]) (
ct 172 (
sq ([
om 174 1,
oo 175 (.ia 4 (.t 174) (ki 0)),
oo 176 (fa 0 175),
ol 177 false 1 176,
ob 178 .eql (.t 177) (ki 5)]) (
ct 178 (
.seq (.region true [
om 179 1,
ow 180 (.ia 4 (.t 179) (ki 0)) 1,
ow 181 (fa 3 180) 3,
ow 182 (.ld false 1 (.t 181)) 7,
om 183 1,
ow 184 (.ia 4 (.t 183) (ki 1)) 16,
ow 185 (.ld true 4 (.t 184)) 48,
ow 186 (.call 117 [.t 182,.t 185] 0 true) 127,
ow 187 (.len 0 (.t 186)) 255,
om 188 1,
ow 189 (.ia 4 (.t 188) (ki 0)) 512,
ow 190 (fa 3 189) 1536,
ow 191 (.ld false 1 (.t 190)) 3584,
ow 192 (.len 0 (.t 191)) 7680,
ow 193 (.bin .eql (.t 187) (.t 192)) 16383,
ow 194 (.call 288 [.t 193] 0 true) 32767,
oz (.st 4 (.t 4) (.t 194)) 65535]) (
.ret)) (.skip))) (.seq (sq ([
ob 196 .eql (.t 5) (ki 16),
om 195 196]) (
ct 195 (
.skip) (sq ([
ob 197 .eql (.t 5) (ki 17),
om 195 197]) (
ct 195 (
.skip) (.region false [
ob 198 .eql (.t 5) (ki 18),
om 195 198]))))) (
ct 195 (
sq ([
om 199 1,
oo 200 (.ia 4 (.t 199) (ki 0)),
oo 201 (fa 0 200),
ol 202 false 1 201,
ob 203 .eql (.t 202) (ki 6),
om 204 203,
og 205 (.mv (.t 1)) 204,
og 206 (.ia 4 (.t 205) (ki 1)) 204,
og 207 (fa 0 206) 204,
og 208 (.ld false 1 (.t 207)) 204,
og 209 (.bin .eql (.t 208) (ki 3)) 204,
oo 210 (.pick (.t 204) (.t 209) (kb false))]) (
ct 210 (
sq ([
om 211 0,
om 212 1,
oo 213 (.call 291 [.t 211,.t 212] 0 true),
oz (.st 4 (.t 4) (.t 213)) 0]) (
.ret)) (.skip))) (.skip))))))))))))))))))))))))))) (
sq ([
oo 214 (.call 279 [(ki 4)] 0 true),
oz (.st 4 (.t 4) (.t 214)) 0]) (
.ret))),[.cell 4 true 4]⟩
def Zmr:Notes:={ anns:=[],frz:=[],rgs:=[] }
def Zil:CFn:=⟨sq ([
oo 2 (.zero (.agg zV))]) (
sq ([
om 3 0,
oo 4 (.build zV [(0,1,(ki 7)),(1,1,.t 3)]),
oz (.st 4 (.t 2) (.t 4)) 0]) (
.ret)),[.cell 2 true 4]⟩
def Zms:Notes:={ anns:=[],frz:=[],rgs:=[] }
def Zfn:CFn:=⟨sq ([
oo 2 (.box (.t 0)),
oo 3 (.box (.t 1)),
oo 4 (.zero (.agg zV))]) (
sq ([
oo 10 (fa 0 2),
ol 11 false 1 10,
oo 12 (fa 5 3),
ol 13 false 1 12,
oo 14 (.call 292 [.t 11,.t 13] 0 true),
om 9 14,
oo 15 (.ext (.t 9) 0),
oo 16 (.ext (.t 9) 1),
om 5 15,
om 6 16]) (
sq ([
om 18 5,
oo 19 (fa 6 3),
ol 20 false 1 19,
oo 21 (.call 293 [.t 18,.t 20] 0 true),
om 17 21,
oo 22 (.ext (.t 17) 0),
oo 23 (.ext (.t 17) 1),
oo 7 (.zero (.agg zV)),
oz (.st 4 (.t 7) (.t 22)) 0,
om 8 23]) (
.seq (sq ([
om 24 8,
oo 25 (.un .not (.t 24))]) (
ct 25 (
sq ([
oo 26 (.call 283 [(ki 7)] 0 true),
oz (.st 4 (.t 4) (.t 26)) 0]) (
.ret)) (.skip))) (
sq ([
ol 27 true 4 7,
oz (.st 4 (.t 4) (.t 27)) 0]) (
.ret))))),[.cell 4 true 4]⟩
def Zmt:Notes:={ anns:=[],frz:=[],rgs:=[] }
def z3i:CFn:=⟨sq ([
oo 2 (.box (.t 0)),
oo 3 (.box (.t 1)),
oo 4 (.zero (.agg zV))]) (
sq ([
oo 10 (fa 1 2),
ol 11 false 1 10,
oo 12 (fa 5 3),
ol 13 false 1 12,
oo 14 (.call 294 [.t 11,.t 13] 0 true),
om 9 14,
oo 15 (.ext (.t 9) 0),
oo 16 (.ext (.t 9) 1),
om 5 15,
om 6 16]) (
.seq (.block 0 (sq ([
om 18 6,
oo 19 (.un .not (.t 18)),
om 17 19]) (
ct 17 (
sq ([
oo 20 (.call 283 [(ki 7)] 0 true),
oz (.st 4 (.t 4) (.t 20)) 0]) (
.ret)) (sq ([
oo 22 (fa 0 3),
ol 23 false 1 22,
ob 24 .eql (.t 23) (ki 2),
om 21 24]) (
ct 21 (
sq ([
om 25 5,
oo 26 (.build zV [(0,1,(ki 3)),(2,1,.t 25)]),
oz (.st 4 (.t 4) (.t 26)) 0]) (
.ret)) (sq ([
om 28 5,
oo 29 (.len 1 (.t 28)),
ob 30 .lss (.t 29) (ki 1),
om 31 30,
oh 32 (.mv (.t 5)) 31,
oh 33 (.len 1 (.t 32)) 31,
oh 34 (.bin .gtr (.t 33) (ki 18)) 31,
oo 35 (.pick (.t 31) (kb true) (.t 34)),
om 36 35,
oh 37 (.mv (.t 5)) 36,
oh 38 (.call 295 [.t 37,(.k (.d (.s [48,49,50,51,52,53,54,55,56,57])))] 0 true) 36,
oh 39 (.bin .neq (.t 38) (.k (.d (.s [])))) 36,
oo 40 (.pick (.t 36) (kb true) (.t 39)),
om 27 40]) (
ct 27 (
sq ([
oo 41 (.call 283 [(ki 2)] 0 true),
oz (.st 4 (.t 4) (.t 41)) 0]) (
.ret)) (.skip)))))))) (
sq ([
om 43 5,
oo 44 (.call 296 [.t 43,(ki 10),(ki 64)] 0 true),
om 42 44,
oo 45 (.ext (.t 42) 0),
oo 46 (.ext (.t 42) 1),
om 7 45,
om 8 46]) (
sq ([
om 47 7,
oo 48 (.build zV [(0,1,(ki 1)),(1,1,.t 47)]),
oz (.st 4 (.t 4) (.t 48)) 0]) (
.ret))))),[.cell 4 true 4]⟩
def Zmu:Notes:={ anns:=[],frz:=[],rgs:=[] }
def z8e:CFn:=⟨sq ([
oo 2 (.box (.t 0)),
oo 3 (.box (.t 1)),
oo 4 (.zero (.agg zV))]) (
.seq (.seq (.region true [
ol 6 true 2 2,
oo 7 (fa 7 3),
ow 8 (.ld false 1 (.t 7)) 2,
ow 9 (.ia 8 (.t 8) (ki 0)) 6,
ow 10 (.ld true 8 (.t 9)) 14,
ow 11 (.call 277 [.t 6,.t 10] 0 true) 31,
oo 5 (.zero (.agg zV)),
oz (.st 4 (.t 5) (.t 11)) 127]) (
.block 0 (sq ([
oo 13 (fa 0 5),
ol 14 false 1 13,
ob 15 .eql (.t 14) (ki 7),
om 12 15]) (
ct 12 (
sq ([
ol 16 true 4 5,
oz (.st 4 (.t 4) (.t 16)) 0]) (
.ret)) (sq ([
oo 18 (fa 0 5),
ol 19 false 1 18,
ob 20 .neq (.t 19) (ki 2),
om 17 20]) (
ct 17 (
sq ([
oo 21 (.call 283 [(ki 4)] 0 true),
oz (.st 4 (.t 4) (.t 21)) 0]) (
.ret)) (sq ([
oo 23 (fa 1 5),
ol 24 false 1 23,
ob 25 .neq (.t 24) (ki 0),
om 22 25]) (
ct 22 (
.seq (.region true [
ol 26 true 2 2,
oo 27 (fa 7 3),
ow 28 (.ld false 1 (.t 27)) 2,
ow 29 (.ia 8 (.t 28) (ki 1)) 6,
ow 30 (.ld true 8 (.t 29)) 14,
ow 31 (.call 277 [.t 26,.t 30] 0 true) 31,
oz (.st 4 (.t 4) (.t 31)) 63]) (
.ret)) (.skip))))))))) (
.seq (.region true [
ol 32 true 2 2,
oo 33 (fa 7 3),
ow 34 (.ld false 1 (.t 33)) 2,
ow 35 (.ia 8 (.t 34) (ki 2)) 6,
ow 36 (.ld true 8 (.t 35)) 14,
ow 37 (.call 277 [.t 32,.t 36] 0 true) 31,
oz (.st 4 (.t 4) (.t 37)) 63]) (
.ret))),[.cell 4 true 4]⟩
def Zmv:Notes:={ anns:=[],frz:=[],rgs:=[] }
def zmk:CFn:=⟨sq ([
oo 4 (.zero (.agg zV))]) (
.seq (sq ([
om 5 0]) (
.block 0 (.seq (sq ([
ob 7 .eql (.t 5) (ki 4),
om 6 7]) (
ct 6 (
.skip) (sq ([
ob 8 .eql (.t 5) (ki 5),
om 6 8]) (
ct 6 (
.skip) (.region false [
ob 9 .eql (.t 5) (ki 6),
om 6 9]))))) (
ct 6 (
.seq (sq ([
om 10 1,
oo 11 (.bsl 1 2 [(.i .i64 0)] [(0,(ki 1)),(1,(ki 1))]),
oo 12 (.call 297 [.t 10,.t 11] 0 true),
oo 13 (.un .not (.t 12))]) (
ct 13 (
sq ([
oo 14 (.call 283 [(ki 4)] 0 true),
oz (.st 4 (.t 4) (.t 14)) 0]) (
.ret)) (.skip))) (
.seq (.region true [
om 15 0,
om 16 1,
ow 17 (.ia 4 (.t 16) (ki 0)) 2,
ow 18 (fa 1 17) 6,
ow 19 (.ld false 1 (.t 18)) 14,
om 20 1,
ow 21 (.ia 4 (.t 20) (ki 1)) 32,
ow 22 (fa 1 21) 96,
ow 23 (.ld false 1 (.t 22)) 224,
ow 24 (.call 298 [.t 15,.t 19,.t 23] 0 true) 511,
oz (.st 4 (.t 4) (.t 24)) 1023]) (
.ret))) (sq ([
ob 26 .eql (.t 5) (ki 7),
om 25 26]) (
ct 25 (
.seq (.region true [
om 27 1,
ow 28 (.ia 4 (.t 27) (ki 0)) 1,
ow 29 (.ld true 4 (.t 28)) 3,
om 30 1,
ow 31 (.ia 4 (.t 30) (ki 1)) 8,
ow 32 (.ld true 4 (.t 31)) 24,
ow 33 (.call 114 [.t 29,.t 32] 0 true) 63,
ow 34 (.bin .eql (.t 33) (ki 0)) 127,
ow 35 (.call 299 [.t 34] 0 true) 255,
oz (.st 4 (.t 4) (.t 35)) 511]) (
.ret)) (sq ([
ob 37 .eql (.t 5) (ki 8),
om 36 37]) (
ct 36 (
.seq (.region true [
om 38 1,
ow 39 (.ia 4 (.t 38) (ki 0)) 1,
ow 40 (.ld true 4 (.t 39)) 3,
om 41 1,
ow 42 (.ia 4 (.t 41) (ki 1)) 8,
ow 43 (.ld true 4 (.t 42)) 24,
ow 44 (.call 114 [.t 40,.t 43] 0 true) 63,
ow 45 (.bin .lss (.t 44) (ki 0)) 127,
ow 46 (.call 299 [.t 45] 0 true) 255,
oz (.st 4 (.t 4) (.t 46)) 511]) (
.ret)) (.seq (sq ([
ob 48 .eql (.t 5) (ki 9),
om 47 48]) (
ct 47 (
.skip) (sq ([
ob 49 .eql (.t 5) (ki 10),
om 47 49]) (
ct 47 (
.skip) (.region false [
ob 50 .eql (.t 5) (ki 11),
om 47 50]))))) (
ct 47 (
sq ([
om 51 0,
om 52 1,
oo 53 (.call 300 [.t 51,.t 52] 0 true),
oz (.st 4 (.t 4) (.t 53)) 0]) (
.ret)) (sq ([
ob 55 .eql (.t 5) (ki 13),
om 54 55]) (
ct 54 (
.seq (.region true [
om 56 1,
ow 57 (.ia 4 (.t 56) (ki 0)) 1,
ow 58 (.ld true 4 (.t 57)) 3,
om 59 1,
ow 60 (.ia 4 (.t 59) (ki 1)) 8,
ow 61 (.ld true 4 (.t 60)) 24,
ow 62 (.call 301 [.t 58,.t 61] 0 true) 63,
oz (.st 4 (.t 4) (.t 62)) 127]) (
.ret)) (sq ([
ob 64 .eql (.t 5) (ki 14),
om 63 64]) (
ct 63 (
sq ([
om 65 1,
oo 66 (.build zV [(0,1,(ki 4)),(3,1,.t 65)]),
oz (.st 4 (.t 4) (.t 66)) 0]) (
.ret)) (sq ([
ob 68 .eql (.t 5) (ki 15),
om 67 68]) (
ct 67 (
sq ([
om 69 1,
oo 70 (.ia 4 (.t 69) (ki 0)),
ol 71 true 4 70,
oo 72 (.call 302 [.t 71] 0 true),
oz (.st 4 (.t 4) (.t 72)) 0]) (
.ret)) (.seq (sq ([
ob 74 .eql (.t 5) (ki 16),
om 73 74]) (
ct 73 (
.skip) (sq ([
ob 75 .eql (.t 5) (ki 17),
om 73 75]) (
ct 73 (
.skip) (.region false [
ob 76 .eql (.t 5) (ki 18),
om 73 76]))))) (
ct 73 (
sq ([
om 77 0,
om 78 1,
oo 79 (.call 303 [.t 77,.t 78] 0 true),
oz (.st 4 (.t 4) (.t 79)) 0]) (
.ret)) (sq ([
ob 81 .eql (.t 5) (ki 21),
om 80 81]) (
ct 80 (
sq ([
oo 82 (.build zV [(0,1,(ki 5))]),
oz (.st 4 (.t 4) (.t 82)) 0]) (
.ret)) (sq ([
ob 84 .eql (.t 5) (ki 22),
om 83 84]) (
ct 83 (
sq ([
oo 85 (.build zV [(0,1,(ki 6))]),
oz (.st 4 (.t 4) (.t 85)) 0]) (
.ret)) (.skip))))))))))))))))))))))) (
.seq (.region true [
om 86 0,
om 87 1,
ow 88 (.ia 4 (.t 87) (ki 0)) 2,
ow 89 (.ld true 4 (.t 88)) 6,
om 90 1,
ow 91 (.ia 4 (.t 90) (ki 1)) 16,
ow 92 (.ld true 4 (.t 91)) 48,
ow 93 (.call 304 [.t 86,.t 89,.t 92] 0 true) 127,
oz (.st 4 (.t 4) (.t 93)) 255]) (
.ret))),[.cell 4 true 4]⟩
def Zmw:Notes:={ anns:=[],frz:=[],rgs:=[] }
def z8f:CFn:=⟨sq ([
oo 2 (.zero (.agg zV))]) (
.seq (sq ([
om 3 0]) (
ct 3 (
sq ([
oo 4 (.build zV [(0,1,(ki 2)),(1,1,(ki 1))]),
oz (.st 4 (.t 2) (.t 4)) 0]) (
.ret)) (.skip))) (
sq ([
oo 5 (.build zV [(0,1,(ki 2))]),
oz (.st 4 (.t 2) (.t 5)) 0]) (
.ret))),[.cell 2 true 4]⟩
def Zmx:Notes:={ anns:=[],frz:=[],rgs:=[] }
def z3j:CFn:=⟨sq ([
oo 4 (.mv (kb false))]) (
.seq (sq ([
oo 5 (.mv (ki 0))]) (
.block 0 (.loop ⟨[0,1,5],[],[],[],[],true⟩ (.seq (sq ([
om 6 5,
om 7 0,
oo 8 (.len 0 (.t 7)),
ob 9 .lss (.t 6) (.t 8)]) (
ct 9 (
.skip) (.exit 0))) (
.seq (.block 1 (sq ([
om 12 0,
om 13 5,
oo 14 (.ia 4 (.t 12) (.t 13)),
oo 15 (fa 0 14),
ol 16 false 1 15,
om 17 1,
ob 18 .neq (.t 16) (.t 17)]) (
ct 18 (
sq ([
oo 4 (.mv (kb false))]) (
.ret)) (.skip)))) (
.region false [
om 10 5,
ob 11 .add (.t 10) (ki 1),
om 5 11])))))) (
sq ([
oo 4 (.mv (kb true))]) (
.ret))),[.slot 4]⟩
def Zmy:Notes:={ anns:=[⟨[0,1,5],[],[],[],[],true⟩],frz:=[],rgs:=[] }
def zml:CFn:=⟨sq ([
oo 6 (.zero (.agg zV))]) (
sq ([
oo 7 (.mv (kb false))]) (
.seq (sq ([
om 9 0]) (
.block 0 (sq ([
ob 40 .eql (.t 9) (ki 4),
om 39 40]) (
ct 39 (
sq ([
om 41 2,
ob 42 .gtr (.t 41) (ki 0),
om 43 42,
og 44 (.mv (.t 1)) 43,
og 45 (.mv (.t 2)) 43,
og 46 (.bin .sub (ki 9223372036854775807) (.t 45)) 43,
og 47 (.bin .gtr (.t 44) (.t 46)) 43,
oo 48 (.pick (.t 43) (.t 47) (kb false)),
om 49 48,
oh 50 (.mv (.t 2)) 49,
oh 51 (.bin .lss (.t 50) (ki 0)) 49,
oh 52 (.mv (.t 51)) 49,
og 53 (.mv (.t 1)) 52,
og 54 (.mv (.t 2)) 52,
og 55 (.bin .sub (.k (.d (.i .i64 (-9223372036854775808)))) (.t 54)) 52,
og 56 (.bin .lss (.t 53) (.t 55)) 52,
oh 57 (.pick (.t 52) (.t 56) (kb false)) 49,
oo 58 (.pick (.t 49) (kb true) (.t 57)),
om 7 58]) (
.region false [
om 59 1,
om 60 2,
ob 61 .add (.t 59) (.t 60),
om 1 61])) (sq ([
ob 63 .eql (.t 9) (ki 5),
om 62 63]) (
ct 62 (
sq ([
om 64 2,
ob 65 .lss (.t 64) (ki 0),
om 66 65,
og 67 (.mv (.t 1)) 66,
og 68 (.mv (.t 2)) 66,
og 69 (.bin .add (ki 9223372036854775807) (.t 68)) 66,
og 70 (.bin .gtr (.t 67) (.t 69)) 66,
oo 71 (.pick (.t 66) (.t 70) (kb false)),
om 72 71,
oh 73 (.mv (.t 2)) 72,
oh 74 (.bin .gtr (.t 73) (ki 0)) 72,
oh 75 (.mv (.t 74)) 72,
og 76 (.mv (.t 1)) 75,
og 77 (.mv (.t 2)) 75,
og 78 (.bin .add (.k (.d (.i .i64 (-9223372036854775808)))) (.t 77)) 75,
og 79 (.bin .lss (.t 76) (.t 78)) 75,
oh 80 (.pick (.t 75) (.t 79) (kb false)) 72,
oo 81 (.pick (.t 72) (kb true) (.t 80)),
om 7 81]) (
.region false [
om 82 1,
om 83 2,
ob 84 .sub (.t 82) (.t 83),
om 1 84])) (sq ([
om 10 1,
om 11 2,
ob 12 .mul (.t 10) (.t 11),
om 8 12]) (
sq ([
om 13 1,
ob 14 .neq (.t 13) (ki 0),
om 15 14,
og 16 (.mv (.t 8)) 15,
og 17 (.mv (.t 1)) 15,
og 18 (.bin .quo (.t 16) (.t 17)) 15,
og 19 (.mv (.t 2)) 15,
og 20 (.bin .neq (.t 18) (.t 19)) 15,
og 21 (.mv (.t 20)) 15,
oh 22 (.mv (.t 1)) 21,
oh 23 (.bin .eql (.t 22) (.k (.d (.i .i64 (-1))))) 21,
oh 24 (.mv (.t 23)) 21,
og 25 (.mv (.t 2)) 24,
og 26 (.bin .eql (.t 25) (.k (.d (.i .i64 (-9223372036854775808))))) 24,
oh 27 (.pick (.t 24) (.t 26) (kb false)) 21,
og 28 (.pick (.t 21) (kb true) (.t 27)) 15,
og 29 (.mv (.t 28)) 15,
oh 30 (.mv (.t 2)) 29,
oh 31 (.bin .eql (.t 30) (.k (.d (.i .i64 (-1))))) 29,
oh 32 (.mv (.t 31)) 29,
og 33 (.mv (.t 1)) 32,
og 34 (.bin .eql (.t 33) (.k (.d (.i .i64 (-9223372036854775808))))) 32,
oh 35 (.pick (.t 32) (.t 34) (kb false)) 29,
og 36 (.pick (.t 29) (kb true) (.t 35)) 15,
oo 37 (.pick (.t 15) (.t 36) (kb false)),
om 7 37]) (
.region false [
om 38 8,
om 1 38]))))))))) (
.seq (sq ([
om 85 7]) (
ct 85 (
sq ([
oo 86 (.call 279 [(ki 5)] 0 true),
oz (.st 4 (.t 6) (.t 86)) 0]) (
.ret)) (.skip))) (
sq ([
om 87 1,
oo 88 (.build zV [(0,1,(ki 1)),(1,1,.t 87)]),
oz (.st 4 (.t 6) (.t 88)) 0]) (
.ret))))),[.cell 6 true 4]⟩
def Zmz:Notes:={ anns:=[],frz:=[],rgs:=[] }
def zza:CFn:=⟨sq ([
oo 4 (.zero (.agg zV))]) (
.seq (.region true [
om 10 1,
ow 11 (.ia 4 (.t 10) (ki 0)) 1,
ow 12 (fa 3 11) 3,
ow 13 (.ld false 1 (.t 12)) 7,
om 14 1,
ow 15 (.ia 4 (.t 14) (ki 1)) 16,
ow 16 (fa 2 15) 48,
ow 17 (.ld false 1 (.t 16)) 112,
ow 18 (.call 120 [.t 13,.t 17] 0 true) 255,
ow 9 (.mv (.t 18)) 511,
ow 19 (.ext (.t 9) 0) 1023,
ow 20 (.ext (.t 9) 1) 1023,
ow 5 (.mv (.t 19)) 2047,
ow 6 (.mv (.t 20)) 8191]) (
.seq (sq ([
om 21 0,
ob 22 .eql (.t 21) (ki 18)]) (
ct 22 (
sq ([
om 23 6,
oo 24 (.call 288 [.t 23] 0 true),
oz (.st 4 (.t 4) (.t 24)) 0]) (
.ret)) (.skip))) (
.seq (sq ([
om 25 0,
ob 26 .eql (.t 25) (ki 17)]) (
ct 26 (
.seq (sq ([
om 27 6,
oo 28 (.un .not (.t 27))]) (
ct 28 (
sq ([
oo 29 (.call 279 [(ki 7)] 0 true),
oz (.st 4 (.t 4) (.t 29)) 0]) (
.ret)) (.skip))) (
sq ([
om 30 1,
oo 31 (.ia 4 (.t 30) (ki 0)),
oo 32 (fa 3 31),
ol 33 false 1 32,
om 34 5,
oo 35 (.ia 4 (.t 33) (.t 34)),
oo 36 (fa 3 35),
ol 37 false 1 36,
oo 38 (.ia 4 (.t 37) (ki 1)),
ol 39 true 4 38,
oz (.st 4 (.t 4) (.t 39)) 0]) (
.ret))) (.skip))) (
sq ([
om 40 1,
oo 41 (.ia 4 (.t 40) (ki 0)),
oo 42 (fa 3 41),
ol 43 false 1 42,
om 44 5,
oo 45 (.slc 4 (.t 43) (some (.t 44)) none),
om 7 45]) (
.seq (sq ([
om 46 6]) (
ct 46 (
.region false [
om 47 7,
oo 48 (.slc 4 (.t 47) (some (ki 1)) none),
om 7 48]) (.skip))) (
.seq (.region true [
om 49 1,
ow 50 (.ia 4 (.t 49) (ki 1)) 1,
ow 51 (.ld true 4 (.t 50)) 3,
om 52 1,
ow 53 (.ia 4 (.t 52) (ki 2)) 8,
ow 54 (.ld true 4 (.t 53)) 24,
ow 55 (.bsl 4 2 [(.i .i64 0),(.i .i64 0),(.s []),(.l 4 [])] [(0,.t 51),(1,.t 54)]) 63,
ow 56 (.build zV [(0,1,(ki 4)),(3,1,.t 55)]) 127,
oo 8 (.zero (.agg zV)),
oz (.st 4 (.t 8) (.t 56)) 511]) (
.seq (.region true [
oo 57 (.bsl 4 0 [(.i .i64 0),(.i .i64 0),(.s []),(.l 4 [])] []),
om 58 1,
ow 59 (.ia 4 (.t 58) (ki 0)) 2,
ow 60 (fa 3 59) 6,
ow 61 (.ld false 1 (.t 60)) 14,
om 62 5,
ow 63 (.slc 4 (.t 61) none (some (.t 62))) 62,
ow 64 (.app 4 56 (.t 57) (.t 63)) 127,
ol 65 true 4 8,
ow 66 (.bsl 4 1 [(.i .i64 0),(.i .i64 0),(.s []),(.l 4 [])] [(0,.t 65)]) 256,
ow 67 (.app 4 56 (.t 64) (.t 66)) 1023,
om 68 7,
ow 69 (.app 4 56 (.t 67) (.t 68)) 4095,
ow 70 (.build zV [(0,1,(ki 6)),(3,1,.t 69)]) 8191,
oz (.st 4 (.t 4) (.t 70)) 16383]) (
.ret)))))))),[.cell 4 true 4]⟩
def Zm0:Notes:={ anns:=[],frz:=[],rgs:=[] }
def Za8:CFn:=⟨sq ([
oo 4 (.mv (.k (.nil 4))),
oo 5 (.mv (kb false))]) (
.seq (sq ([
om 6 1,
ob 7 .lss (.t 6) (ki 0),
om 8 7,
oh 9 (.mv (.t 1)) 8,
oh 10 (.mv (.t 0)) 8,
oh 11 (.len 0 (.t 10)) 8,
oh 12 (.bin .geq (.t 9) (.t 11)) 8,
oo 13 (.pick (.t 8) (kb true) (.t 12))]) (
ct 13 (
sq ([
om 14 4,
om 4 14,
oo 5 (.mv (kb false))]) (
.ret)) (.skip))) (
sq ([
om 15 0,
om 16 1,
oo 17 (.ia 1 (.t 15) (.t 16)),
ol 18 false 1 17,
om 4 18,
oo 5 (.mv (kb true))]) (
.ret))),[.slot 4,.slot 5]⟩
def Zm1:Notes:={ anns:=[],frz:=[],rgs:=[] }
def Za9:CFn:=⟨sq ([
oo 4 (.zero (.agg zV)),
oo 5 (.mv (kb false))]) (
.seq (sq ([
om 6 1,
ob 7 .lss (.t 6) (ki 0),
om 8 7,
oh 9 (.mv (.t 1)) 8,
oh 10 (.mv (.t 0)) 8,
oh 11 (.len 0 (.t 10)) 8,
oh 12 (.bin .geq (.t 9) (.t 11)) 8,
oo 13 (.pick (.t 8) (kb true) (.t 12))]) (
ct 13 (
sq ([
ol 14 true 4 4,
oz (.st 4 (.t 4) (.t 14)) 0,
oo 5 (.mv (kb false))]) (
.ret)) (.skip))) (
sq ([
om 15 0,
om 16 1,
oo 17 (.ia 4 (.t 15) (.t 16)),
ol 18 true 4 17,
oz (.st 4 (.t 4) (.t 18)) 0,
oo 5 (.mv (kb true))]) (
.ret))),[.cell 4 true 4,.slot 5]⟩
def Zm2:Notes:={ anns:=[],frz:=[],rgs:=[] }
def Zba:CFn:=⟨sq ([
oo 4 (.mv (.k (.d (.s [])))),
oo 5 (.mv (kb false))]) (
.seq (sq ([
om 6 1,
ob 7 .lss (.t 6) (ki 0),
om 8 7,
oh 9 (.mv (.t 1)) 8,
oh 10 (.mv (.t 0)) 8,
oh 11 (.len 0 (.t 10)) 8,
oh 12 (.bin .geq (.t 9) (.t 11)) 8,
oo 13 (.pick (.t 8) (kb true) (.t 12))]) (
ct 13 (
sq ([
om 14 4,
om 4 14,
oo 5 (.mv (kb false))]) (
.ret)) (.skip))) (
sq ([
om 15 0,
om 16 1,
oo 17 (.ia 1 (.t 15) (.t 16)),
ol 18 false 1 17,
om 4 18,
oo 5 (.mv (kb true))]) (
.ret))),[.slot 4,.slot 5]⟩
def Zm3:Notes:={ anns:=[],frz:=[],rgs:=[] }
def z6d:CFn:=⟨sq ([
oo 4 (.mv (kb false))]) (
.seq (sq ([
om 7 1,
oo 8 (.len 0 (.t 7)),
oo 9 (.mv (ki 0))]) (
.block 0 (.loop ⟨[0,7,8,9],[],[],[],[],true⟩ (sq ([
ob 10 .lss (.t 9) (.t 8)]) (
.seq (ct 10 (
.skip) (.exit 0)) (
.seq (.block 1 (sq ([
om 11 9,
oo 12 (.ia 1 (.t 7) (.t 9)),
ol 13 false 1 12,
om 5 11,
om 6 13]) (
sq ([
om 14 0,
om 15 5,
oo 16 (.ia 4 (.t 14) (.t 15)),
oo 17 (fa 0 16),
ol 18 false 1 17,
om 19 6,
ob 20 .neq (.t 18) (.t 19)]) (
ct 20 (
sq ([
oo 4 (.mv (kb false))]) (
.ret)) (.skip))))) (
.region false [
ob 21 .add (.t 9) (ki 1),
om 9 21]))))))) (
sq ([
oo 4 (.mv (kb true))]) (
.ret))),[.slot 4]⟩
def Zm4:Notes:={ anns:=[⟨[0,7,8,9],[],[],[],[],true⟩],frz:=[],rgs:=[] }
def zyf:CFn:=⟨sq ([
oo 6 (.zero (.agg zV))]) (
sq ([
oo 7 (.mv (ki 0)),
oo 8 (.mv (kb false))]) (
.seq (sq ([
om 9 0]) (
.block 0 (sq ([
ob 11 .eql (.t 9) (ki 4),
om 10 11]) (
ct 10 (
sq ([
om 12 1,
om 13 2,
ob 14 .add (.t 12) (.t 13),
om 7 14]) (
.region false [
om 15 1,
om 16 7,
ob 17 .xor (.t 15) (.t 16),
om 18 2,
om 19 7,
ob 20 .xor (.t 18) (.t 19),
ob 21 .and (.t 17) (.t 20),
ob 22 .lss (.t 21) (ki 0),
om 8 22])) (sq ([
ob 24 .eql (.t 9) (ki 5),
om 23 24]) (
ct 23 (
sq ([
om 25 1,
om 26 2,
ob 27 .sub (.t 25) (.t 26),
om 7 27]) (
.region false [
om 28 1,
om 29 2,
ob 30 .xor (.t 28) (.t 29),
om 31 1,
om 32 7,
ob 33 .xor (.t 31) (.t 32),
ob 34 .and (.t 30) (.t 33),
ob 35 .lss (.t 34) (ki 0),
om 8 35])) (sq ([
ob 37 .eql (.t 9) (ki 6),
om 36 37]) (
ct 36 (
sq ([
om 38 1,
om 39 2,
ob 40 .mul (.t 38) (.t 39),
om 7 40]) (
.region false [
om 41 1,
ob 42 .neq (.t 41) (ki 0),
om 43 42,
og 44 (.mv (.t 7)) 43,
og 45 (.mv (.t 1)) 43,
og 46 (.bin .quo (.t 44) (.t 45)) 43,
og 47 (.mv (.t 2)) 43,
og 48 (.bin .neq (.t 46) (.t 47)) 43,
og 49 (.mv (.t 48)) 43,
oh 50 (.mv (.t 1)) 49,
oh 51 (.bin .eql (.t 50) (.k (.d (.i .i64 (-1))))) 49,
oh 52 (.mv (.t 51)) 49,
og 53 (.mv (.t 2)) 52,
og 54 (.bin .eql (.t 53) (.k (.d (.i .i64 (-9223372036854775808))))) 52,
oh 55 (.pick (.t 52) (.t 54) (kb false)) 49,
og 56 (.pick (.t 49) (kb true) (.t 55)) 43,
oo 57 (.pick (.t 43) (.t 56) (kb false)),
om 8 57])) (.skip))))))))) (
.seq (sq ([
om 58 8]) (
ct 58 (
sq ([
oo 59 (.call 283 [(ki 5)] 0 true),
oz (.st 4 (.t 6) (.t 59)) 0]) (
.ret)) (.skip))) (
sq ([
om 60 7,
oo 61 (.build zV [(0,1,(ki 1)),(1,1,.t 60)]),
oz (.st 4 (.t 6) (.t 61)) 0]) (
.ret))))),[.cell 6 true 4]⟩
def Zm5:Notes:={ anns:=[],frz:=[],rgs:=[] }
def Zfo:CFn:=⟨sq ([
oo 2 (.zero (.agg zV))]) (
sq ([
oo 4 (.build zV [(0,1,(ki 2))]),
oo 3 (.zero (.agg zV)),
oz (.st 4 (.t 3) (.t 4)) 0]) (
.seq (sq ([
om 5 0]) (
ct 5 (
.region false [
oo 6 (fa 1 3),
oz (.st 1 (.t 6) (ki 1)) 0]) (.skip))) (
sq ([
ol 7 true 4 3,
oz (.st 4 (.t 2) (.t 7)) 0]) (
.ret)))),[.cell 2 true 4]⟩
def Zm6:Notes:={ anns:=[],frz:=[],rgs:=[] }
def zub:CFn:=⟨sq ([
oo 4 (.zero (.agg zV))]) (
.seq (.block 0 (sq ([
om 6 1,
om 7 0,
oo 8 (.call 236 [.t 7] 0 true),
oo 9 (.mm true [.t 8,(ki 1)]),
oo 10 (.slc 4 (.t 6) none (some (.t 9))),
oo 11 (.bsl 1 1 [(.i .i64 0)] [(0,(ki 2))]),
oo 12 (.call 297 [.t 10,.t 11] 0 true),
oo 13 (.un .not (.t 12)),
om 14 13,
oh 15 (.mv (.t 0)) 14,
oh 16 (.bin .neq (.t 15) (ki 11)) 14,
oh 17 (.mv (.t 16)) 14,
og 18 (.mv (.t 1)) 17,
og 19 (.bsl 1 2 [(.i .i64 0)] [(0,(ki 2)),(1,(ki 2))]) 17,
og 20 (.call 297 [.t 18,.t 19] 0 true) 17,
og 21 (.un .not (.t 20)) 17,
oh 22 (.pick (.t 17) (.t 21) (kb false)) 14,
oo 23 (.pick (.t 14) (kb true) (.t 22)),
om 5 23]) (
ct 5 (
sq ([
oo 24 (.call 283 [(ki 4)] 0 true),
oz (.st 4 (.t 4) (.t 24)) 0]) (
.ret)) (sq ([
om 26 0,
ob 27 .eql (.t 26) (ki 11),
om 25 27]) (
ct 25 (
sq ([
om 28 1,
oo 29 (.ia 4 (.t 28) (ki 0)),
oo 30 (fa 1 29),
ol 31 false 1 30,
ob 32 .eql (.t 31) (ki 0),
oo 33 (.call 299 [.t 32] 0 true),
oz (.st 4 (.t 4) (.t 33)) 0]) (
.ret)) (sq ([
om 35 0,
ob 36 .eql (.t 35) (ki 9),
om 34 36]) (
ct 34 (
sq ([
om 37 1,
oo 38 (.ia 4 (.t 37) (ki 0)),
oo 39 (fa 1 38),
ol 40 false 1 39,
ob 41 .neq (.t 40) (ki 0),
om 42 41,
og 43 (.mv (.t 1)) 42,
og 44 (.ia 4 (.t 43) (ki 1)) 42,
og 45 (fa 1 44) 42,
og 46 (.ld false 1 (.t 45)) 42,
og 47 (.bin .neq (.t 46) (ki 0)) 42,
oo 48 (.pick (.t 42) (.t 47) (kb false)),
oo 49 (.call 299 [.t 48] 0 true),
oz (.st 4 (.t 4) (.t 49)) 0]) (
.ret)) (.skip)))))))) (
sq ([
om 50 1,
oo 51 (.ia 4 (.t 50) (ki 0)),
oo 52 (fa 1 51),
ol 53 false 1 52,
ob 54 .neq (.t 53) (ki 0),
om 55 54,
oh 56 (.mv (.t 1)) 55,
oh 57 (.ia 4 (.t 56) (ki 1)) 55,
oh 58 (fa 1 57) 55,
oh 59 (.ld false 1 (.t 58)) 55,
oh 60 (.bin .neq (.t 59) (ki 0)) 55,
oo 61 (.pick (.t 55) (kb true) (.t 60)),
oo 62 (.call 299 [.t 61] 0 true),
oz (.st 4 (.t 4) (.t 62)) 0]) (
.ret))),[.cell 4 true 4]⟩
def Zm7:Notes:={ anns:=[],frz:=[],rgs:=[] }
def z8g:CFn:=⟨sq ([
oo 2 (.box (.t 0)),
oo 3 (.box (.t 1)),
oo 4 (.zero (.agg zV))]) (
.seq (sq ([
oo 5 (fa 0 2),
ol 6 false 1 5,
oo 7 (fa 0 3),
ol 8 false 1 7,
ob 9 .neq (.t 6) (.t 8),
om 10 9,
oh 11 (fa 0 2) 10,
oh 12 (.ld false 1 (.t 11)) 10,
oh 13 (.bin .neq (.t 12) (ki 3)) 10,
oh 14 (.mv (.t 13)) 10,
og 15 (fa 0 2) 14,
og 16 (.ld false 1 (.t 15)) 14,
og 17 (.bin .neq (.t 16) (ki 4)) 14,
oh 18 (.pick (.t 14) (.t 17) (kb false)) 10,
oo 19 (.pick (.t 10) (kb true) (.t 18))]) (
ct 19 (
sq ([
oo 20 (.call 283 [(ki 4)] 0 true),
oz (.st 4 (.t 4) (.t 20)) 0]) (
.ret)) (.skip))) (
.seq (.region true [
oo 21 (fa 0 2),
ow 22 (.ld false 1 (.t 21)) 1,
oo 23 (fa 2 2),
ow 24 (.ld false 1 (.t 23)) 4,
oo 25 (fa 2 3),
ow 26 (.ld false 1 (.t 25)) 16,
ow 27 (.bin .add (.t 24) (.t 26)) 60,
oo 28 (fa 3 2),
ow 29 (.ld false 1 (.t 28)) 128,
oo 30 (fa 3 3),
ow 31 (.ld false 1 (.t 30)) 512,
ow 32 (.bsl 1 2 [(.l 4 [])] [(0,.t 29),(1,.t 31)]) 1920,
ow 33 (.call 314 [.t 32] 0 true) 3968,
ow 34 (.build zV [(0,1,.t 22),(2,1,.t 27),(3,1,.t 33)]) 8191,
oz (.st 4 (.t 4) (.t 34)) 16383]) (
.ret))),[.cell 4 true 4]⟩
def Zm8:Notes:={ anns:=[],frz:=[],rgs:=[] }
def z6e:CFn:=⟨sq ([
oo 1 (.box (.t 0)),
oo 2 (.zero (.agg zV))]) (
.seq (sq ([
oo 3 (fa 0 1),
ol 4 false 1 3]) (
.block 0 (sq ([
ob 6 .eql (.t 4) (ki 3),
om 5 6]) (
ct 5 (
sq ([
oo 7 (fa 2 1),
ol 8 false 1 7,
oo 9 (.len 1 (.t 8)),
oo 10 (.build zV [(0,1,(ki 1)),(1,1,.t 9)]),
oz (.st 4 (.t 2) (.t 10)) 0]) (
.ret)) (.seq (sq ([
ob 12 .eql (.t 4) (ki 4),
om 11 12]) (
ct 11 (
.skip) (sq ([
ob 13 .eql (.t 4) (ki 5),
om 11 13]) (
ct 11 (
.skip) (.region false [
ob 14 .eql (.t 4) (ki 6),
om 11 14]))))) (
ct 11 (
sq ([
oo 15 (fa 3 1),
ol 16 false 1 15,
oo 17 (.len 0 (.t 16)),
oo 18 (.build zV [(0,1,(ki 1)),(1,1,.t 17)]),
oz (.st 4 (.t 2) (.t 18)) 0]) (
.ret)) (.skip))))))) (
sq ([
oo 19 (.call 283 [(ki 4)] 0 true),
oz (.st 4 (.t 2) (.t 19)) 0]) (
.ret))),[.cell 2 true 4]⟩
def Zm9:Notes:={ anns:=[],frz:=[],rgs:=[] }
def z3k:CFn:=⟨sq ([
oo 4 (.zero (.agg zV))]) (
.seq (sq ([
om 8 1,
oo 9 (.bsl 1 2 [(.i .i64 0)] [(0,(ki 6)),(1,(ki 3))]),
oo 10 (.call 297 [.t 8,.t 9] 0 true),
oo 11 (.un .not (.t 10))]) (
ct 11 (
sq ([
oo 12 (.call 283 [(ki 4)] 0 true),
oz (.st 4 (.t 4) (.t 12)) 0]) (
.ret)) (.skip))) (
sq ([
om 13 1,
oo 14 (.ia 4 (.t 13) (ki 0)),
oo 15 (fa 3 14),
ol 16 false 1 15,
om 5 16]) (
sq ([
om 18 5,
om 19 1,
oo 20 (.ia 4 (.t 19) (ki 1)),
oo 21 (fa 2 20),
ol 22 false 1 21,
oo 23 (.call 119 [.t 18,.t 22] 0 true),
om 17 23,
oo 24 (.ext (.t 17) 0),
oo 25 (.ext (.t 17) 1),
om 6 24,
om 7 25]) (
.seq (.block 0 (sq ([
om 27 0,
ob 28 .eql (.t 27) (ki 18),
om 26 28]) (
ct 26 (
sq ([
om 29 7,
oo 30 (.call 299 [.t 29] 0 true),
oz (.st 4 (.t 4) (.t 30)) 0]) (
.ret)) (sq ([
om 32 0,
ob 33 .eql (.t 32) (ki 17),
om 34 33,
og 35 (.mv (.t 7)) 34,
oo 36 (.pick (.t 34) (.t 35) (kb false)),
om 37 36,
og 38 (.mv (.t 5)) 37,
og 39 (.mv (.t 6)) 37,
og 40 (.ia 4 (.t 38) (.t 39)) 37,
og 41 (fa 3 40) 37,
og 42 (.ld false 1 (.t 41)) 37,
og 43 (.len 0 (.t 42)) 37,
og 44 (.bin .gtr (.t 43) (ki 1)) 37,
oo 45 (.pick (.t 37) (.t 44) (kb false)),
om 31 45]) (
ct 31 (
sq ([
om 46 5,
om 47 6,
oo 48 (.ia 4 (.t 46) (.t 47)),
oo 49 (fa 3 48),
ol 50 false 1 49,
oo 51 (.ia 4 (.t 50) (ki 1)),
ol 52 true 4 51,
oz (.st 4 (.t 4) (.t 52)) 0]) (
.ret)) (sq ([
om 54 0,
ob 55 .eql (.t 54) (ki 17),
om 53 55]) (
ct 53 (
sq ([
oo 56 (.call 283 [(ki 7)] 0 true),
oz (.st 4 (.t 4) (.t 56)) 0]) (
.ret)) (.skip)))))))) (
sq ([
om 57 5,
oo 58 (.call 146 [.t 57] 4 false),
om 5 58]) (
.seq (sq ([
om 59 7]) (
ct 59 (
.region false [
om 60 5,
om 61 6,
om 62 6,
ob 63 .add (.t 62) (ki 1),
oo 64 (.call 315 [.t 60,.t 61,.t 63] 4 false),
om 5 64]) (.skip))) (
sq ([
om 65 5,
om 66 6,
om 67 1,
oo 68 (.slc 4 (.t 67) (some (ki 1)) (some (ki 3))),
oo 69 (.call 146 [.t 68] 0 true),
oo 70 (.build zV [(0,1,(ki 4)),(3,1,.t 69)]),
oo 71 (.bsl 4 1 [(.i .i64 0),(.i .i64 0),(.s []),(.l 4 [])] [(0,.t 70)]),
oo 72 (.call 134 [.t 65,.t 66,.t 71] 0 true),
oo 73 (.build zV [(0,1,(ki 6)),(3,1,.t 72)]),
oz (.st 4 (.t 4) (.t 73)) 0]) (
.ret)))))))),[.cell 4 true 4]⟩
def Zna:Notes:={ anns:=[],frz:=[0,0,0,0,0,0,0,0,0,0,0,0,0,0,0,0,0,0,0,0,0,0,0,0,0,0,0,0,0,0,0,0,0,0,0,0,0,0,0,0,0,0,0,0,0,0,0,0,0,0,0,0,0,0,0,0,0,0,1,0,0,0,0,0,0,1],rgs:=[] }
def Zbb:CFn:=⟨sq ([
oo 4 (.box (.t 1)),
oo 5 (.box (.t 2)),
oo 6 (.zero (.agg zV))]) (
.seq (sq ([
oo 8 (fa 0 4),
ol 9 false 1 8,
ob 10 .neq (.t 9) (ki 5)]) (
ct 10 (
sq ([
oo 11 (.call 283 [(ki 4)] 0 true),
oz (.st 4 (.t 6) (.t 11)) 0]) (
.ret)) (.skip))) (
sq ([
oo 12 (fa 3 4),
ol 13 false 1 12,
ol 14 true 4 5,
oo 15 (.call 116 [.t 13,.t 14] 0 true),
om 7 15]) (
.seq (sq ([
om 16 0,
ob 17 .eql (.t 16) (ki 20)]) (
ct 17 (
sq ([
om 18 7,
oo 19 (.len 0 (.t 18)),
oo 20 (fa 3 4),
ol 21 false 1 20,
oo 22 (.len 0 (.t 21)),
ob 23 .eql (.t 19) (.t 22),
oo 24 (.call 299 [.t 23] 0 true),
oz (.st 4 (.t 6) (.t 24)) 0]) (
.ret)) (.skip))) (
sq ([
om 25 7,
oo 26 (.build zV [(0,1,(ki 5)),(3,1,.t 25)]),
oz (.st 4 (.t 6) (.t 26)) 0]) (
.ret))))),[.cell 6 true 4]⟩
def Znb:Notes:={ anns:=[],frz:=[],rgs:=[] }
def Zfp:CFn:=⟨sq ([
oo 2 (.mv (.k (.nil 4)))]) (
sq ([
oo 3 (.mv (ki 0))]) (
.seq (sq ([
om 9 0,
oo 10 (.len 0 (.t 9)),
oo 11 (.mv (ki 0))]) (
.block 0 (.loop ⟨[0,3,9,10,11],[],[],[],[],false⟩ (sq ([
ob 12 .lss (.t 11) (.t 10)]) (
.seq (ct 12 (
.skip) (.exit 0)) (
.seq (.block 1 (sq ([
oo 13 (.ia 1 (.t 9) (.t 11)),
ol 14 false 1 13,
om 5 14]) (
sq ([
om 15 3,
om 16 5,
oo 17 (.len 0 (.t 16)),
ob 18 .add (.t 15) (.t 17),
om 3 18]) (
sq ([
om 19 3,
ob 20 .lss (.t 19) (ki 0)]) (
ct 20 (
.region false [
oo 21 (.die),
oz (.die) 0]) (.skip)))))) (
.region false [
ob 22 .add (.t 11) (ki 1),
om 11 22]))))))) (
sq ([
om 23 3,
oo 24 (.callr 325 [(.k (.nil 4)),(.t 23)] 4),
om 6 24]) (
.seq (sq ([
om 25 0,
oo 26 (.len 0 (.t 25)),
oo 27 (.mv (ki 0))]) (
.block 2 (.loop ⟨[6,25,26,27],[],[],[],[],false⟩ (sq ([
ob 28 .lss (.t 27) (.t 26)]) (
.seq (ct 28 (
.skip) (.exit 2)) (
.seq (.block 3 (sq ([
oo 29 (.ia 1 (.t 25) (.t 27)),
ol 30 false 1 29,
om 8 30]) (
.region false [
om 31 6,
om 32 8,
oo 33 (.apa 4 56 (.t 31) (.t 32)),
om 6 33]))) (
.region false [
ob 34 .add (.t 27) (ki 1),
om 27 34]))))))) (
sq ([
om 35 6,
om 2 35]) (
.ret)))))),[.slot 2]⟩
def Znc:Notes:={ anns:=[⟨[0,3,9,10,11],[],[],[],[],false⟩,⟨[6,25,26,27],[],[],[],[],false⟩],frz:=[0,0,0,0,0,0,0,0,0,0,0,0,0,0,0,0,0,0,0,0,0,3,0,0,0,0,0,0,0,0,0,0,1],rgs:=[] }
def Zfq:CFn:=⟨sq ([
oo 4 (.mv (.k (.nil 4)))]) (
.seq (sq ([
om 5 1,
ob 6 .lss (.t 5) (ki 0)]) (
ct 6 (
.region false [
oo 7 (.die),
oz (.die) 0]) (.skip))) (
.seq (sq ([
om 8 1,
om 9 0,
oo 10 (.capn (.t 9)),
om 11 0,
oo 12 (.len 0 (.t 11)),
ob 13 .sub (.t 10) (.t 12),
ob 14 .sub (.t 8) (.t 13),
om 1 14]) (
sq ([
om 15 1,
ob 16 .gtr (.t 15) (ki 0)]) (
ct 16 (
.region false [
om 17 0,
om 18 0,
oo 19 (.capn (.t 18)),
oo 20 (.slc 4 (.t 17) none (some (.t 19))),
om 21 1,
oo 22 (.apz 4 56 [(.i .i64 0),(.i .i64 0),(.s []),(.l 4 [])] (.t 20) (.t 21)),
om 23 0,
oo 24 (.len 0 (.t 23)),
oo 25 (.slc 4 (.t 22) none (some (.t 24))),
om 0 25]) (.skip)))) (
sq ([
om 26 0,
om 4 26]) (
.ret)))),[.raw 4]⟩
def Znd:Notes:={ anns:=[],frz:=[0,0,0,0,0,0,0,0,0,0,0,0,0,0,0,0,0,0,0,0,1],rgs:=[],raw:=true }
end Ab
