/-
 G: compiled functions: printed by a program of the workbench; the kernel checks each against the model's code.
-/
import Derived.Test.YtdbjkmciidcanaaGreatPack4
import Derived.Test.YtdbjkmciidcanaaGreatText0
set_option linter.unusedSimpArgs false
set_option linter.unusedVariables false
set_option linter.unusedSectionVars false
set_option linter.unnecessarySimpa false
namespace Ab
def Zi1:CFn:=⟨.seq (.region false [
oo 2 (.mv (.k (.d .np)))]) (
.seq (.region false [
oo 3 (.mv (.t 0)),
oo 4 (.build [(.nil 1),(.d (.i .i64 0))] [(0,1,.t 3)]),
oo 5 (.box (.t 4)),
oo 2 (.mv (.t 5))]) (
.ret)),[.slot 2]⟩
def Zop:Notes:={ anns:=[],frz:=[],rgs:=[] }
def z42:CFn:=⟨.seq (.region false [
oo 1 (.box (.t 0)),
oo 2 (.mv (.k (.d (.b false))))]) (
.seq (.seq (.region false [
oo 6 (.ld true 4 (.t 1)),
oo 7 (.call 113 [.t 6] 0 true),
oo 8 (.bin .gtr (.t 7) (.k (.d (.i .i64 60))))]) (
.cond (.t 8) (
.seq (.region false [
oo 2 (.mv (.k (.d (.b false))))]) (
.ret)) (.skip))) (
.seq (.seq (.region false [
oo 3 (.mv (.k (.d (.i .i64 0))))]) (
.block 0 (.loop ⟨[1,3],[],[],[],[],true⟩ (.seq (.seq (.region false [
oo 9 (.mv (.t 3)),
oo 10 (.fa 3 (.t 1)),
oo 11 (.ld false 1 (.t 10)),
oo 12 (.len 0 (.t 11)),
oo 13 (.bin .lss (.t 9) (.t 12))]) (
.cond (.t 13) (
.skip) (.exit 0))) (
.seq (.block 1 (.seq (.region false [
oo 16 (.fa 3 (.t 1)),
oo 17 (.ld false 1 (.t 16)),
oo 18 (.mv (.t 3)),
oo 19 (.ia 4 (.t 17) (.t 18)),
oo 20 (.ld true 4 (.t 19)),
oo 21 (.call 110 [.t 20] 0 true),
oo 22 (.un .not (.t 21)),
oo 23 (.mv (.t 22)),
⟨some 24,.fa 3 (.t 1),(some (23,false)),0⟩,
⟨some 25,.ld false 1 (.t 24),(some (23,false)),0⟩,
⟨some 26,.mv (.t 3),(some (23,false)),0⟩,
⟨some 27,.ia 4 (.t 25) (.t 26),(some (23,false)),0⟩,
⟨some 28,.fa 0 (.t 27),(some (23,false)),0⟩,
⟨some 29,.ld false 1 (.t 28),(some (23,false)),0⟩,
⟨some 30,.bin .eql (.t 29) (.k (.d (.i .i64 7))),(some (23,false)),0⟩,
oo 31 (.pick (.t 23) (.k (.d (.b true))) (.t 30))]) (
.cond (.t 31) (
.seq (.region false [
oo 2 (.mv (.k (.d (.b false))))]) (
.ret)) (.skip)))) (
.region false [
oo 14 (.mv (.t 3)),
oo 15 (.bin .add (.t 14) (.k (.d (.i .i64 1)))),
oo 3 (.mv (.t 15))])))))) (
.seq (.seq (.region false [
oo 32 (.fa 0 (.t 1)),
oo 33 (.ld false 1 (.t 32))]) (
.block 2 (.seq (.region false [
oo 35 (.bin .eql (.t 33) (.k (.d (.i .i64 1)))),
oo 34 (.mv (.t 35))]) (
.cond (.t 34) (
.seq (.region false [
oo 36 (.fa 2 (.t 1)),
oo 37 (.ld false 1 (.t 36)),
oo 38 (.bin .eql (.t 37) (.k (.d (.s [])))),
oo 39 (.mv (.t 38)),
⟨some 40,.fa 3 (.t 1),(some (39,true)),0⟩,
⟨some 41,.ld false 1 (.t 40),(some (39,true)),0⟩,
⟨some 42,.len 0 (.t 41),(some (39,true)),0⟩,
⟨some 43,.bin .eql (.t 42) (.k (.d (.i .i64 0))),(some (39,true)),0⟩,
oo 44 (.pick (.t 39) (.t 43) (.k (.d (.b false)))),
oo 2 (.mv (.t 44))]) (
.ret)) (.seq (.region false [
oo 46 (.bin .eql (.t 33) (.k (.d (.i .i64 2)))),
oo 45 (.mv (.t 46))]) (
.cond (.t 45) (
.seq (.region false [
oo 47 (.fa 2 (.t 1)),
oo 48 (.ld false 1 (.t 47)),
oo 49 (.bin .eql (.t 48) (.k (.d (.s [])))),
oo 50 (.mv (.t 49)),
⟨some 51,.fa 3 (.t 1),(some (50,true)),0⟩,
⟨some 52,.ld false 1 (.t 51),(some (50,true)),0⟩,
⟨some 53,.len 0 (.t 52),(some (50,true)),0⟩,
⟨some 54,.bin .eql (.t 53) (.k (.d (.i .i64 0))),(some (50,true)),0⟩,
oo 55 (.pick (.t 50) (.t 54) (.k (.d (.b false)))),
oo 56 (.mv (.t 55)),
⟨some 57,.fa 1 (.t 1),(some (56,true)),0⟩,
⟨some 58,.ld false 1 (.t 57),(some (56,true)),0⟩,
⟨some 59,.bin .eql (.t 58) (.k (.d (.i .i64 0))),(some (56,true)),0⟩,
⟨some 60,.mv (.t 59),(some (56,true)),0⟩,
⟨some 61,.fa 1 (.t 1),(some (60,false)),0⟩,
⟨some 62,.ld false 1 (.t 61),(some (60,false)),0⟩,
⟨some 63,.bin .eql (.t 62) (.k (.d (.i .i64 1))),(some (60,false)),0⟩,
⟨some 64,.pick (.t 60) (.k (.d (.b true))) (.t 63),(some (56,true)),0⟩,
oo 65 (.pick (.t 56) (.t 64) (.k (.d (.b false)))),
oo 2 (.mv (.t 65))]) (
.ret)) (.seq (.region false [
oo 67 (.bin .eql (.t 33) (.k (.d (.i .i64 3)))),
oo 66 (.mv (.t 67))]) (
.cond (.t 66) (
.seq (.region false [
oo 68 (.fa 1 (.t 1)),
oo 69 (.ld false 1 (.t 68)),
oo 70 (.bin .eql (.t 69) (.k (.d (.i .i64 0)))),
oo 71 (.mv (.t 70)),
⟨some 72,.fa 3 (.t 1),(some (71,true)),0⟩,
⟨some 73,.ld false 1 (.t 72),(some (71,true)),0⟩,
⟨some 74,.len 0 (.t 73),(some (71,true)),0⟩,
⟨some 75,.bin .eql (.t 74) (.k (.d (.i .i64 0))),(some (71,true)),0⟩,
oo 76 (.pick (.t 71) (.t 75) (.k (.d (.b false)))),
oo 2 (.mv (.t 76))]) (
.ret)) (.seq (.region false [
oo 78 (.bin .eql (.t 33) (.k (.d (.i .i64 7)))),
oo 77 (.mv (.t 78))]) (
.cond (.t 77) (
.seq (.region false [
oo 79 (.fa 2 (.t 1)),
oo 80 (.ld false 1 (.t 79)),
oo 81 (.bin .eql (.t 80) (.k (.d (.s [])))),
oo 82 (.mv (.t 81)),
⟨some 83,.fa 3 (.t 1),(some (82,true)),0⟩,
⟨some 84,.ld false 1 (.t 83),(some (82,true)),0⟩,
⟨some 85,.len 0 (.t 84),(some (82,true)),0⟩,
⟨some 86,.bin .eql (.t 85) (.k (.d (.i .i64 0))),(some (82,true)),0⟩,
oo 87 (.pick (.t 82) (.t 86) (.k (.d (.b false)))),
oo 88 (.mv (.t 87)),
⟨some 89,.fa 1 (.t 1),(some (88,true)),0⟩,
⟨some 90,.ld false 1 (.t 89),(some (88,true)),0⟩,
⟨some 91,.bin .geq (.t 90) (.k (.d (.i .i64 1))),(some (88,true)),0⟩,
oo 92 (.pick (.t 88) (.t 91) (.k (.d (.b false)))),
oo 93 (.mv (.t 92)),
⟨some 94,.fa 1 (.t 1),(some (93,true)),0⟩,
⟨some 95,.ld false 1 (.t 94),(some (93,true)),0⟩,
⟨some 96,.bin .leq (.t 95) (.k (.d (.i .i64 13))),(some (93,true)),0⟩,
oo 97 (.pick (.t 93) (.t 96) (.k (.d (.b false)))),
oo 2 (.mv (.t 97))]) (
.ret)) (.skip))))))))))) (
.seq (.seq (.region false [
oo 98 (.fa 1 (.t 1)),
oo 99 (.ld false 1 (.t 98)),
oo 100 (.bin .neq (.t 99) (.k (.d (.i .i64 0)))),
oo 101 (.mv (.t 100)),
⟨some 102,.fa 2 (.t 1),(some (101,false)),0⟩,
⟨some 103,.ld false 1 (.t 102),(some (101,false)),0⟩,
⟨some 104,.bin .neq (.t 103) (.k (.d (.s []))),(some (101,false)),0⟩,
oo 105 (.pick (.t 101) (.k (.d (.b true))) (.t 104)),
oo 106 (.mv (.t 105)),
⟨some 107,.fa 0 (.t 1),(some (106,false)),0⟩,
⟨some 108,.ld false 1 (.t 107),(some (106,false)),0⟩,
⟨some 109,.bin .lss (.t 108) (.k (.d (.i .i64 4))),(some (106,false)),0⟩,
oo 110 (.pick (.t 106) (.k (.d (.b true))) (.t 109)),
oo 111 (.mv (.t 110)),
⟨some 112,.fa 0 (.t 1),(some (111,false)),0⟩,
⟨some 113,.ld false 1 (.t 112),(some (111,false)),0⟩,
⟨some 114,.bin .gtr (.t 113) (.k (.d (.i .i64 6))),(some (111,false)),0⟩,
oo 115 (.pick (.t 111) (.k (.d (.b true))) (.t 114))]) (
.cond (.t 115) (
.seq (.region false [
oo 2 (.mv (.k (.d (.b false))))]) (
.ret)) (.skip))) (
.seq (.seq (.region false [
oo 4 (.mv (.k (.d (.i .i64 0))))]) (
.block 3 (.loop ⟨[1,4],[],[],[],[],true⟩ (.seq (.seq (.region false [
oo 116 (.mv (.t 4)),
oo 117 (.fa 3 (.t 1)),
oo 118 (.ld false 1 (.t 117)),
oo 119 (.len 0 (.t 118)),
oo 120 (.bin .lss (.t 116) (.t 119))]) (
.cond (.t 120) (
.skip) (.exit 3))) (
.seq (.block 4 (.seq (.region false [
oo 123 (.fa 3 (.t 1)),
oo 124 (.ld false 1 (.t 123)),
oo 125 (.mv (.t 4)),
oo 126 (.ia 4 (.t 124) (.t 125)),
oo 127 (.ld true 4 (.t 126)),
oo 5 (.zero (.agg [(.d (.i .i64 0)),(.d (.i .i64 0)),(.d (.s [])),(.nil 4)])),
⟨none,.st 4 (.t 5) (.t 127),none,0⟩]) (
.seq (.seq (.region true [
oo 128 (.fa 0 (.t 1)),
⟨some 129,.ld false 1 (.t 128),none,1⟩,
⟨some 130,.bin .eql (.t 129) (.k (.d (.i .i64 5))),none,3⟩,
⟨some 131,.mv (.t 130),none,7⟩,
⟨some 132,.mv (.t 4),(some (131,true)),15⟩,
⟨some 133,.bin .gtr (.t 132) (.k (.d (.i .i64 0))),(some (131,true)),31⟩,
⟨some 134,.pick (.t 131) (.t 133) (.k (.d (.b false))),none,63⟩,
⟨some 135,.mv (.t 134),none,127⟩,
⟨some 136,.fa 3 (.t 1),(some (135,true)),255⟩,
⟨some 137,.ld false 1 (.t 136),(some (135,true)),511⟩,
⟨some 138,.mv (.t 4),(some (135,true)),255⟩,
⟨some 139,.bin .sub (.t 138) (.k (.d (.i .i64 1))),(some (135,true)),1279⟩,
⟨some 140,.ia 4 (.t 137) (.t 139),(some (135,true)),4095⟩,
⟨some 141,.ld true 4 (.t 140),(some (135,true)),8191⟩,
⟨some 142,.ld true 4 (.t 5),(some (135,true)),255⟩,
⟨some 143,.call 115 [.t 141,.t 142] 0 true,(some (135,true)),32767⟩,
⟨some 144,.bin .geq (.t 143) (.k (.d (.i .i64 0))),(some (135,true)),65535⟩,
⟨some 145,.pick (.t 135) (.t 144) (.k (.d (.b false))),none,131071⟩]) (
.cond (.t 145) (
.seq (.region false [
oo 2 (.mv (.k (.d (.b false))))]) (
.ret)) (.skip))) (
.seq (.region true [
oo 146 (.fa 0 (.t 1)),
⟨some 147,.ld false 1 (.t 146),none,1⟩,
⟨some 148,.bin .eql (.t 147) (.k (.d (.i .i64 6))),none,3⟩,
⟨some 149,.mv (.t 148),none,7⟩,
⟨some 150,.fa 0 (.t 5),(some (149,true)),15⟩,
⟨some 151,.ld false 1 (.t 150),(some (149,true)),31⟩,
⟨some 152,.bin .neq (.t 151) (.k (.d (.i .i64 4))),(some (149,true)),63⟩,
⟨some 153,.mv (.t 152),(some (149,true)),127⟩,
⟨some 154,.fa 3 (.t 5),(some (153,false)),255⟩,
⟨some 155,.ld false 1 (.t 154),(some (153,false)),511⟩,
⟨some 156,.len 0 (.t 155),(some (153,false)),1023⟩,
⟨some 157,.bin .neq (.t 156) (.k (.d (.i .i64 2))),(some (153,false)),2047⟩,
⟨some 158,.pick (.t 153) (.k (.d (.b true))) (.t 157),(some (149,true)),4095⟩,
⟨some 159,.mv (.t 158),(some (149,true)),8191⟩,
⟨some 160,.fa 3 (.t 5),(some (159,false)),16383⟩,
⟨some 161,.ld false 1 (.t 160),(some (159,false)),32767⟩,
⟨some 162,.ia 4 (.t 161) (.k (.d (.i .i64 0))),(some (159,false)),65535⟩,
⟨some 163,.fa 0 (.t 162),(some (159,false)),131071⟩,
⟨some 164,.ld false 1 (.t 163),(some (159,false)),262143⟩,
⟨some 165,.bin .neq (.t 164) (.k (.d (.i .i64 3))),(some (159,false)),524287⟩,
⟨some 166,.pick (.t 159) (.k (.d (.b true))) (.t 165),(some (149,true)),1048575⟩,
⟨some 167,.mv (.t 166),(some (149,true)),2097151⟩,
⟨some 168,.mv (.t 4),(some (167,false)),4194303⟩,
⟨some 169,.bin .gtr (.t 168) (.k (.d (.i .i64 0))),(some (167,false)),8388607⟩,
⟨some 170,.mv (.t 169),(some (167,false)),16777215⟩,
⟨some 171,.fa 3 (.t 1),(some (170,true)),33554431⟩,
⟨some 172,.ld false 1 (.t 171),(some (170,true)),67108863⟩,
⟨some 173,.mv (.t 4),(some (170,true)),33554431⟩,
⟨some 174,.bin .sub (.t 173) (.k (.d (.i .i64 1))),(some (170,true)),167772159⟩,
⟨some 175,.ia 4 (.t 172) (.t 174),(some (170,true)),536870911⟩,
⟨some 176,.fa 3 (.t 175),(some (170,true)),1073741823⟩,
⟨some 177,.ld false 1 (.t 176),(some (170,true)),2147483647⟩,
⟨some 178,.ia 4 (.t 177) (.k (.d (.i .i64 0))),(some (170,true)),4294967295⟩,
⟨some 179,.fa 2 (.t 178),(some (170,true)),8589934591⟩,
⟨some 180,.ld false 1 (.t 179),(some (170,true)),17179869183⟩,
⟨some 181,.fa 3 (.t 5),(some (170,true)),33554431⟩,
⟨some 182,.ld false 1 (.t 181),(some (170,true)),34393292799⟩,
⟨some 183,.ia 4 (.t 182) (.k (.d (.i .i64 0))),(some (170,true)),103112769535⟩,
⟨some 184,.fa 2 (.t 183),(some (170,true)),240551723007⟩,
⟨some 185,.ld false 1 (.t 184),(some (170,true)),515429629951⟩,
⟨some 186,.bin .geq (.t 180) (.t 185),(some (170,true)),1099511627775⟩,
⟨some 187,.pick (.t 170) (.t 186) (.k (.d (.b false))),(some (167,false)),2199023255551⟩,
⟨some 188,.pick (.t 167) (.k (.d (.b true))) (.t 187),(some (149,true)),4398046511103⟩,
⟨some 189,.pick (.t 149) (.t 188) (.k (.d (.b false))),none,8796093022207⟩]) (
.cond (.t 189) (
.seq (.region false [
oo 2 (.mv (.k (.d (.b false))))]) (
.ret)) (.skip)))))) (
.region false [
oo 121 (.mv (.t 4)),
oo 122 (.bin .add (.t 121) (.k (.d (.i .i64 1)))),
oo 4 (.mv (.t 122))])))))) (
.seq (.region false [
oo 2 (.mv (.k (.d (.b true))))]) (
.ret))))))),[.slot 2]⟩
def Zoq:Notes:={ anns:=[⟨[1,3],[],[],[],[],true⟩,⟨[1,4],[],[],[],[],true⟩],frz:=[],rgs:=[] }
def Zi2:CFn:=⟨.seq (.region false [
oo 1 (.box (.t 0)),
oo 2 (.mv (.k (.d (.b false))))]) (
.seq (.region false [
oo 3 (.ld true 4 (.t 1)),
oo 4 (.call 112 [.t 3] 0 true),
oo 5 (.bin .leq (.t 4) (.k (.d (.i .i64 60)))),
oo 6 (.mv (.t 5)),
⟨some 7,.ld true 4 (.t 1),(some (6,true)),0⟩,
⟨some 8,.call 125 [.t 7] 0 true,(some (6,true)),0⟩,
oo 9 (.pick (.t 6) (.t 8) (.k (.d (.b false)))),
oo 2 (.mv (.t 9))]) (
.ret)),[.slot 2]⟩
def Zor:Notes:={ anns:=[],frz:=[],rgs:=[] }
def Zdv:CFn:=⟨.seq (.region false [
oo 1 (.box (.t 0)),
oo 2 (.mv (.k (.d (.i .i64 0))))]) (
.seq (.region false [
oo 6 (.fa 2 (.t 1)),
oo 7 (.ld false 1 (.t 6)),
oo 8 (.len 1 (.t 7)),
oo 9 (.bin .quo (.t 8) (.k (.d (.i .i64 16)))),
oo 10 (.bin .add (.k (.d (.i .i64 1))) (.t 9)),
oo 3 (.mv (.t 10))]) (
.seq (.seq (.region false [
oo 11 (.fa 3 (.t 1)),
oo 12 (.ld false 1 (.t 11)),
oo 13 (.len 0 (.t 12)),
oo 14 (.mv (.k (.d (.i .i64 0))))]) (
.block 0 (.loop ⟨[3,12,13,14],[],[],[],[],true⟩ (.seq (.region false [
oo 15 (.bin .lss (.t 14) (.t 13))]) (
.seq (.cond (.t 15) (
.skip) (.exit 0)) (
.seq (.block 1 (.seq (.region false [
oo 16 (.ia 4 (.t 12) (.t 14)),
oo 17 (.ld true 4 (.t 16)),
oo 5 (.zero (.agg [(.d (.i .i64 0)),(.d (.i .i64 0)),(.d (.s [])),(.nil 4)])),
⟨none,.st 4 (.t 5) (.t 17),none,0⟩]) (
.region false [
oo 18 (.mv (.t 3)),
oo 19 (.ld true 4 (.t 5)),
oo 20 (.call 112 [.t 19] 0 true),
oo 21 (.bin .add (.t 18) (.t 20)),
oo 3 (.mv (.t 21))]))) (
.region false [
oo 22 (.bin .add (.t 14) (.k (.d (.i .i64 1)))),
oo 14 (.mv (.t 22))]))))))) (
.seq (.region false [
oo 23 (.mv (.t 3)),
oo 2 (.mv (.t 23))]) (
.ret)))),[.slot 2]⟩
def Zos:Notes:={ anns:=[⟨[3,12,13,14],[],[],[],[],true⟩],frz:=[],rgs:=[] }
def z28:CFn:=⟨.seq (.region false [
oo 1 (.box (.t 0)),
oo 2 (.mv (.k (.d (.i .i64 0))))]) (
.seq (.region false [
oo 5 (.fa 2 (.t 1)),
oo 6 (.ld false 1 (.t 5)),
oo 7 (.len 1 (.t 6)),
oo 8 (.bin .quo (.t 7) (.k (.d (.i .i64 16)))),
oo 9 (.bin .add (.k (.d (.i .i64 1))) (.t 8)),
oo 3 (.mv (.t 9))]) (
.seq (.seq (.region false [
oo 4 (.mv (.k (.d (.i .i64 0))))]) (
.block 0 (.loop ⟨[1,3,4],[],[],[],[],true⟩ (.seq (.seq (.region false [
oo 10 (.mv (.t 4)),
oo 11 (.fa 3 (.t 1)),
oo 12 (.ld false 1 (.t 11)),
oo 13 (.len 0 (.t 12)),
oo 14 (.bin .lss (.t 10) (.t 13))]) (
.cond (.t 14) (
.skip) (.exit 0))) (
.seq (.block 1 (.region false [
oo 17 (.mv (.t 3)),
oo 18 (.fa 3 (.t 1)),
oo 19 (.ld false 1 (.t 18)),
oo 20 (.mv (.t 4)),
oo 21 (.ia 4 (.t 19) (.t 20)),
oo 22 (.ld true 4 (.t 21)),
oo 23 (.call 113 [.t 22] 0 true),
oo 24 (.bin .add (.t 17) (.t 23)),
oo 3 (.mv (.t 24))])) (
.region false [
oo 15 (.mv (.t 4)),
oo 16 (.bin .add (.t 15) (.k (.d (.i .i64 1)))),
oo 4 (.mv (.t 16))])))))) (
.seq (.region false [
oo 25 (.mv (.t 3)),
oo 2 (.mv (.t 25))]) (
.ret)))),[.slot 2]⟩
def Zot:Notes:={ anns:=[⟨[1,3,4],[],[],[],[],true⟩],frz:=[],rgs:=[] }
def Zlk:CFn:=⟨.seq (.region false [
oo 2 (.box (.t 0)),
oo 3 (.box (.t 1)),
oo 4 (.mv (.k (.d (.i .i64 0))))]) (
.seq (.region true [
oo 5 (.fa 0 (.t 2)),
⟨some 6,.ld false 1 (.t 5),none,1⟩,
oo 7 (.fa 0 (.t 3)),
⟨some 8,.ld false 1 (.t 7),none,4⟩,
⟨some 9,.call 127 [.t 6,.t 8] 0 true,none,15⟩,
oo 10 (.fa 1 (.t 2)),
⟨some 11,.ld false 1 (.t 10),none,32⟩,
oo 12 (.fa 1 (.t 3)),
⟨some 13,.ld false 1 (.t 12),none,128⟩,
⟨some 14,.call 128 [.t 11,.t 13] 0 true,none,511⟩,
oo 15 (.fa 2 (.t 2)),
⟨some 16,.ld false 1 (.t 15),none,1024⟩,
oo 17 (.fa 2 (.t 3)),
⟨some 18,.ld false 1 (.t 17),none,4096⟩,
⟨some 19,.call 129 [.t 16,.t 18] 0 true,none,16383⟩,
oo 20 (.fa 3 (.t 2)),
⟨some 21,.ld false 1 (.t 20),none,32768⟩,
oo 22 (.fa 3 (.t 3)),
⟨some 23,.ld false 1 (.t 22),none,131072⟩,
⟨some 24,.call 130 [.t 21,.t 23,(.k (.d (.f 114 [] [])))] 4 true,none,524287⟩,
⟨some 25,.bsl 1 4 [(.i .i64 0)] [(0,.t 9),(1,.t 14),(2,.t 19),(3,.t 24)],none,1048575⟩,
⟨some 26,.call 126 [.t 25] 0 true,none,2097151⟩,
⟨some 4,.mv (.t 26),none,4194303⟩]) (
.ret)),[.slot 4]⟩
def Zou:Notes:={ anns:=[],frz:=[],rgs:=[] }
def Znl:CFn:=⟨.seq (.region false [
oo 2 (.box (.t 0)),
oo 3 (.box (.t 1)),
oo 4 (.mv (.k (.d (.i .i64 0))))]) (
.seq (.block 0 (.seq (.region false [
oo 8 (.fa 0 (.t 2)),
oo 9 (.ld false 1 (.t 8)),
oo 10 (.fa 0 (.t 3)),
oo 11 (.ld false 1 (.t 10)),
oo 12 (.bin .neq (.t 9) (.t 11)),
oo 7 (.mv (.t 12))]) (
.cond (.t 7) (
.seq (.region false [
oo 13 (.fa 0 (.t 2)),
oo 14 (.ld false 1 (.t 13)),
oo 15 (.fa 0 (.t 3)),
oo 16 (.ld false 1 (.t 15)),
oo 17 (.bin .lss (.t 14) (.t 16)),
oo 18 (.call 131 [.t 17] 0 true),
oo 4 (.mv (.t 18))]) (
.ret)) (.seq (.region false [
oo 20 (.fa 1 (.t 2)),
oo 21 (.ld false 1 (.t 20)),
oo 22 (.fa 1 (.t 3)),
oo 23 (.ld false 1 (.t 22)),
oo 24 (.bin .neq (.t 21) (.t 23)),
oo 19 (.mv (.t 24))]) (
.cond (.t 19) (
.seq (.region false [
oo 25 (.fa 1 (.t 2)),
oo 26 (.ld false 1 (.t 25)),
oo 27 (.fa 1 (.t 3)),
oo 28 (.ld false 1 (.t 27)),
oo 29 (.bin .lss (.t 26) (.t 28)),
oo 30 (.call 131 [.t 29] 0 true),
oo 4 (.mv (.t 30))]) (
.ret)) (.seq (.region false [
oo 32 (.fa 2 (.t 2)),
oo 33 (.ld false 1 (.t 32)),
oo 34 (.fa 2 (.t 3)),
oo 35 (.ld false 1 (.t 34)),
oo 36 (.bin .neq (.t 33) (.t 35)),
oo 31 (.mv (.t 36))]) (
.cond (.t 31) (
.seq (.region false [
oo 37 (.fa 2 (.t 2)),
oo 38 (.ld false 1 (.t 37)),
oo 39 (.fa 2 (.t 3)),
oo 40 (.ld false 1 (.t 39)),
oo 41 (.bin .lss (.t 38) (.t 40)),
oo 42 (.call 131 [.t 41] 0 true),
oo 4 (.mv (.t 42))]) (
.ret)) (.skip)))))))) (
.seq (.seq (.region false [
oo 5 (.mv (.k (.d (.i .i64 0))))]) (
.block 1 (.loop ⟨[2,3,5],[],[],[],[],true⟩ (.seq (.seq (.region false [
oo 43 (.mv (.t 5)),
oo 44 (.fa 3 (.t 2)),
oo 45 (.ld false 1 (.t 44)),
oo 46 (.len 0 (.t 45)),
oo 47 (.bin .lss (.t 43) (.t 46)),
oo 48 (.mv (.t 47)),
⟨some 49,.mv (.t 5),(some (48,true)),0⟩,
⟨some 50,.fa 3 (.t 3),(some (48,true)),0⟩,
⟨some 51,.ld false 1 (.t 50),(some (48,true)),0⟩,
⟨some 52,.len 0 (.t 51),(some (48,true)),0⟩,
⟨some 53,.bin .lss (.t 49) (.t 52),(some (48,true)),0⟩,
oo 54 (.pick (.t 48) (.t 53) (.k (.d (.b false))))]) (
.cond (.t 54) (
.skip) (.exit 1))) (
.seq (.block 2 (.seq (.region true [
oo 57 (.fa 3 (.t 2)),
⟨some 58,.ld false 1 (.t 57),none,1⟩,
oo 59 (.mv (.t 5)),
⟨some 60,.ia 4 (.t 58) (.t 59),none,7⟩,
⟨some 61,.ld true 4 (.t 60),none,15⟩,
oo 62 (.fa 3 (.t 3)),
⟨some 63,.ld false 1 (.t 62),none,32⟩,
oo 64 (.mv (.t 5)),
⟨some 65,.ia 4 (.t 63) (.t 64),none,224⟩,
⟨some 66,.ld true 4 (.t 65),none,480⟩,
⟨some 67,.call 115 [.t 61,.t 66] 0 true,none,1023⟩,
⟨some 6,.mv (.t 67),none,2047⟩]) (
.seq (.region false [
oo 68 (.mv (.t 6)),
oo 69 (.bin .neq (.t 68) (.k (.d (.i .i64 0))))]) (
.cond (.t 69) (
.seq (.region false [
oo 70 (.mv (.t 6)),
oo 4 (.mv (.t 70))]) (
.ret)) (.skip))))) (
.region false [
oo 55 (.mv (.t 5)),
oo 56 (.bin .add (.t 55) (.k (.d (.i .i64 1)))),
oo 5 (.mv (.t 56))])))))) (
.seq (.seq (.region false [
oo 71 (.fa 3 (.t 2)),
oo 72 (.ld false 1 (.t 71)),
oo 73 (.len 0 (.t 72)),
oo 74 (.fa 3 (.t 3)),
oo 75 (.ld false 1 (.t 74)),
oo 76 (.len 0 (.t 75)),
oo 77 (.bin .eql (.t 73) (.t 76))]) (
.cond (.t 77) (
.seq (.region false [
oo 4 (.mv (.k (.d (.i .i64 0))))]) (
.ret)) (.skip))) (
.seq (.region false [
oo 78 (.fa 3 (.t 2)),
oo 79 (.ld false 1 (.t 78)),
oo 80 (.len 0 (.t 79)),
oo 81 (.fa 3 (.t 3)),
oo 82 (.ld false 1 (.t 81)),
oo 83 (.len 0 (.t 82)),
oo 84 (.bin .lss (.t 80) (.t 83)),
oo 85 (.call 131 [.t 84] 0 true),
oo 4 (.mv (.t 85))]) (
.ret))))),[.slot 4]⟩
def Zov:Notes:={ anns:=[⟨[2,3,5],[],[],[],[],true⟩],frz:=[],rgs:=[] }
def Zdw:CFn:=⟨.seq (.region false [
oo 4 (.mv (.k (.d (.i .i64 0))))]) (
.seq (.seq (.region true [
oo 5 (.mv (.t 0)),
⟨some 6,.nilc (.t 5),none,1⟩,
⟨some 7,.fa 1 (.t 6),none,3⟩,
⟨some 8,.ld false 1 (.t 7),none,7⟩,
oo 9 (.mv (.t 0)),
⟨some 10,.nilc (.t 9),none,16⟩,
⟨some 11,.fa 0 (.t 10),none,48⟩,
⟨some 12,.ld false 1 (.t 11),none,112⟩,
⟨some 13,.len 0 (.t 12),none,240⟩,
⟨some 14,.bin .geq (.t 8) (.t 13),none,511⟩]) (
.cond (.t 14) (
.seq (.region false [
oo 4 (.mv (.k (.d (.i .i64 0))))]) (
.ret)) (.skip))) (
.seq (.region false [
oo 15 (.mv (.t 0)),
oo 16 (.nilc (.t 15)),
oo 17 (.fa 1 (.t 16)),
oo 18 (.ld false 1 (.t 17)),
oo 19 (.bin .add (.t 18) (.k (.d (.i .i64 1)))),
oo 20 (.nilc (.t 15)),
oo 21 (.fa 1 (.t 20)),
⟨none,.st 1 (.t 21) (.t 19),none,0⟩]) (
.seq (.region true [
oo 22 (.mv (.t 0)),
⟨some 23,.nilc (.t 22),none,1⟩,
⟨some 24,.fa 0 (.t 23),none,3⟩,
⟨some 25,.ld false 1 (.t 24),none,7⟩,
oo 26 (.mv (.t 0)),
⟨some 27,.nilc (.t 26),none,16⟩,
⟨some 28,.fa 1 (.t 27),none,48⟩,
⟨some 29,.ld false 1 (.t 28),none,112⟩,
⟨some 30,.bin .sub (.t 29) (.k (.d (.i .i64 1))),none,240⟩,
⟨some 31,.ia 1 (.t 25) (.t 30),none,511⟩,
⟨some 32,.ld false 1 (.t 31),none,1023⟩,
⟨some 33,.conv .i64 (.t 32),none,2047⟩,
oo 34 (.mv (.t 1)),
⟨some 35,.bin .rem (.t 33) (.t 34),none,8191⟩,
⟨some 4,.mv (.t 35),none,16383⟩]) (
.ret)))),[.slot 4]⟩
def Zow:Notes:={ anns:=[],frz:=[],rgs:=[] }
def Zi3:CFn:=⟨.seq (.region false [
oo 1 (.box (.t 0)),
oo 2 (.mv (.k (.d (.b false))))]) (
.seq (.seq (.region false [
oo 3 (.fa 0 (.t 1)),
oo 4 (.ld false 1 (.t 3)),
oo 5 (.bin .lss (.t 4) (.k (.d (.i .i64 1)))),
oo 6 (.mv (.t 5)),
⟨some 7,.fa 0 (.t 1),(some (6,false)),0⟩,
⟨some 8,.ld false 1 (.t 7),(some (6,false)),0⟩,
⟨some 9,.bin .gtr (.t 8) (.k (.d (.i .i64 7))),(some (6,false)),0⟩,
oo 10 (.pick (.t 6) (.k (.d (.b true))) (.t 9)),
oo 11 (.mv (.t 10)),
⟨some 12,.ld true 4 (.t 1),(some (11,false)),0⟩,
⟨some 13,.call 139 [.t 12] 0 true,(some (11,false)),0⟩,
⟨some 14,.un .not (.t 13),(some (11,false)),0⟩,
oo 15 (.pick (.t 11) (.k (.d (.b true))) (.t 14)),
oo 16 (.mv (.t 15)),
⟨some 17,.fa 0 (.t 1),(some (16,false)),0⟩,
⟨some 18,.ld false 1 (.t 17),(some (16,false)),0⟩,
⟨some 19,.bin .neq (.t 18) (.k (.d (.i .i64 3))),(some (16,false)),0⟩,
⟨some 20,.mv (.t 19),(some (16,false)),0⟩,
⟨some 21,.fa 2 (.t 1),(some (20,true)),0⟩,
⟨some 22,.ld false 1 (.t 21),(some (20,true)),0⟩,
⟨some 23,.bin .neq (.t 22) (.k (.d (.s []))),(some (20,true)),0⟩,
⟨some 24,.pick (.t 20) (.t 23) (.k (.d (.b false))),(some (16,false)),0⟩,
oo 25 (.pick (.t 16) (.k (.d (.b true))) (.t 24)),
oo 26 (.mv (.t 25)),
⟨some 27,.ld true 4 (.t 1),(some (26,false)),0⟩,
⟨some 28,.call 140 [.t 27] 0 true,(some (26,false)),0⟩,
⟨some 29,.un .not (.t 28),(some (26,false)),0⟩,
oo 30 (.pick (.t 26) (.k (.d (.b true))) (.t 29))]) (
.cond (.t 30) (
.seq (.region false [
oo 2 (.mv (.k (.d (.b false))))]) (
.ret)) (.skip))) (
.seq (.region false [
oo 31 (.fa 3 (.t 1)),
oo 32 (.ld false 1 (.t 31)),
oo 33 (.call 141 [.t 32,(.k (.d (.f 142 [] [])))] 4 true),
oo 34 (.un .not (.t 33)),
oo 2 (.mv (.t 34))]) (
.ret))),[.slot 2]⟩
def Zox:Notes:={ anns:=[],frz:=[],rgs:=[] }
def Zll:CFn:=⟨.seq (.region false [
oo 2 (.mv (.k (.d (.i .i64 0))))]) (
.seq (.region false [
oo 3 (.mv (.k (.d (.i .i64 0))))]) (
.seq (.seq (.region false [
oo 6 (.mv (.t 0)),
oo 7 (.len 0 (.t 6)),
oo 8 (.mv (.k (.d (.i .i64 0))))]) (
.block 0 (.loop ⟨[3,6,7,8],[],[],[],[],true⟩ (.seq (.region false [
oo 9 (.bin .lss (.t 8) (.t 7))]) (
.seq (.cond (.t 9) (
.skip) (.exit 0)) (
.seq (.block 1 (.seq (.region false [
oo 10 (.ia 1 (.t 6) (.t 8)),
oo 11 (.ld false 1 (.t 10)),
oo 5 (.mv (.t 11))]) (
.seq (.region false [
oo 12 (.mv (.t 5)),
oo 13 (.mv (.t 3)),
oo 14 (.bin .neq (.t 12) (.t 13))]) (
.cond (.t 14) (
.seq (.region false [
oo 15 (.mv (.t 5)),
oo 2 (.mv (.t 15))]) (
.ret)) (.skip))))) (
.region false [
oo 16 (.bin .add (.t 8) (.k (.d (.i .i64 1)))),
oo 8 (.mv (.t 16))]))))))) (
.seq (.region false [
oo 17 (.mv (.t 3)),
oo 2 (.mv (.t 17))]) (
.ret)))),[.slot 2]⟩
def Zoy:Notes:={ anns:=[⟨[3,6,7,8],[],[],[],[],true⟩],frz:=[],rgs:=[] }
def Zlm:CFn:=⟨.seq (.region false [
oo 4 (.mv (.k (.d (.i .i64 0))))]) (
.seq (.region false [
oo 7 (.mv (.t 0)),
oo 8 (.call 143 [.t 7] 0 true),
oo 5 (.mv (.t 8))]) (
.seq (.region false [
oo 9 (.mv (.t 1)),
oo 10 (.call 143 [.t 9] 0 true),
oo 6 (.mv (.t 10))]) (
.seq (.seq (.region false [
oo 11 (.mv (.t 5))]) (
.cond (.t 11) (
.seq (.seq (.region false [
oo 12 (.mv (.t 6))]) (
.cond (.t 12) (
.seq (.region false [
oo 4 (.mv (.k (.d (.i .i64 0))))]) (
.ret)) (.skip))) (
.seq (.region false [
oo 4 (.mv (.k (.d (.i .i64 (-1)))))]) (
.ret))) (.skip))) (
.seq (.seq (.region false [
oo 13 (.mv (.t 6))]) (
.cond (.t 13) (
.seq (.region false [
oo 4 (.mv (.k (.d (.i .i64 1))))]) (
.ret)) (.skip))) (
.seq (.seq (.region false [
oo 14 (.mv (.t 0)),
oo 15 (.mv (.t 1)),
oo 16 (.bin .lss (.t 14) (.t 15))]) (
.cond (.t 16) (
.seq (.region false [
oo 4 (.mv (.k (.d (.i .i64 (-1)))))]) (
.ret)) (.skip))) (
.seq (.seq (.region false [
oo 17 (.mv (.t 0)),
oo 18 (.mv (.t 1)),
oo 19 (.bin .gtr (.t 17) (.t 18))]) (
.cond (.t 19) (
.seq (.region false [
oo 4 (.mv (.k (.d (.i .i64 1))))]) (
.ret)) (.skip))) (
.seq (.region false [
oo 4 (.mv (.k (.d (.i .i64 0))))]) (
.ret)))))))),[.slot 4]⟩
def Zoz:Notes:={ anns:=[],frz:=[],rgs:=[] }
def Zln:CFn:=⟨.seq (.region false [
oo 4 (.mv (.k (.d (.i .i64 0))))]) (
.seq (.region false [
oo 7 (.mv (.t 0)),
oo 8 (.call 144 [.t 7] 0 true),
oo 5 (.mv (.t 8))]) (
.seq (.region false [
oo 9 (.mv (.t 1)),
oo 10 (.call 144 [.t 9] 0 true),
oo 6 (.mv (.t 10))]) (
.seq (.seq (.region false [
oo 11 (.mv (.t 5))]) (
.cond (.t 11) (
.seq (.seq (.region false [
oo 12 (.mv (.t 6))]) (
.cond (.t 12) (
.seq (.region false [
oo 4 (.mv (.k (.d (.i .i64 0))))]) (
.ret)) (.skip))) (
.seq (.region false [
oo 4 (.mv (.k (.d (.i .i64 (-1)))))]) (
.ret))) (.skip))) (
.seq (.seq (.region false [
oo 13 (.mv (.t 6))]) (
.cond (.t 13) (
.seq (.region false [
oo 4 (.mv (.k (.d (.i .i64 1))))]) (
.ret)) (.skip))) (
.seq (.seq (.region false [
oo 14 (.mv (.t 0)),
oo 15 (.mv (.t 1)),
oo 16 (.bin .lss (.t 14) (.t 15))]) (
.cond (.t 16) (
.seq (.region false [
oo 4 (.mv (.k (.d (.i .i64 (-1)))))]) (
.ret)) (.skip))) (
.seq (.seq (.region false [
oo 17 (.mv (.t 0)),
oo 18 (.mv (.t 1)),
oo 19 (.bin .gtr (.t 17) (.t 18))]) (
.cond (.t 19) (
.seq (.region false [
oo 4 (.mv (.k (.d (.i .i64 1))))]) (
.ret)) (.skip))) (
.seq (.region false [
oo 4 (.mv (.k (.d (.i .i64 0))))]) (
.ret)))))))),[.slot 4]⟩
def Zo0:Notes:={ anns:=[],frz:=[],rgs:=[] }
def Zlo:CFn:=⟨.seq (.region false [
oo 4 (.mv (.k (.d (.i .i64 0))))]) (
.seq (.region false [
oo 7 (.mv (.t 0)),
oo 8 (.call 145 [.t 7] 0 true),
oo 5 (.mv (.t 8))]) (
.seq (.region false [
oo 9 (.mv (.t 1)),
oo 10 (.call 145 [.t 9] 0 true),
oo 6 (.mv (.t 10))]) (
.seq (.seq (.region false [
oo 11 (.mv (.t 5))]) (
.cond (.t 11) (
.seq (.seq (.region false [
oo 12 (.mv (.t 6))]) (
.cond (.t 12) (
.seq (.region false [
oo 4 (.mv (.k (.d (.i .i64 0))))]) (
.ret)) (.skip))) (
.seq (.region false [
oo 4 (.mv (.k (.d (.i .i64 (-1)))))]) (
.ret))) (.skip))) (
.seq (.seq (.region false [
oo 13 (.mv (.t 6))]) (
.cond (.t 13) (
.seq (.region false [
oo 4 (.mv (.k (.d (.i .i64 1))))]) (
.ret)) (.skip))) (
.seq (.seq (.region false [
oo 14 (.mv (.t 0)),
oo 15 (.mv (.t 1)),
oo 16 (.bin .lss (.t 14) (.t 15))]) (
.cond (.t 16) (
.seq (.region false [
oo 4 (.mv (.k (.d (.i .i64 (-1)))))]) (
.ret)) (.skip))) (
.seq (.seq (.region false [
oo 17 (.mv (.t 0)),
oo 18 (.mv (.t 1)),
oo 19 (.bin .gtr (.t 17) (.t 18))]) (
.cond (.t 19) (
.seq (.region false [
oo 4 (.mv (.k (.d (.i .i64 1))))]) (
.ret)) (.skip))) (
.seq (.region false [
oo 4 (.mv (.k (.d (.i .i64 0))))]) (
.ret)))))))),[.slot 4]⟩
def Zo1:Notes:={ anns:=[],frz:=[],rgs:=[] }
def Zlp:CFn:=⟨.seq (.region false [
oo 6 (.mv (.k (.d (.i .i64 0))))]) (
.seq (.seq (.region false [
oo 11 (.mv (.t 0)),
oo 12 (.len 0 (.t 11)),
oo 13 (.mv (.k (.d (.i .i64 0))))]) (
.block 0 (.loop ⟨[0,1,2,11,12,13],[],[],[],[],true⟩ (.seq (.region false [
oo 14 (.bin .lss (.t 13) (.t 12))]) (
.seq (.cond (.t 14) (
.skip) (.exit 0)) (
.seq (.block 1 (.seq (.region false [
oo 15 (.mv (.t 13)),
oo 16 (.ia 4 (.t 11) (.t 13)),
oo 17 (.ld true 4 (.t 16)),
oo 8 (.zero (.agg [(.d (.i .i64 0)),(.d (.i .i64 0)),(.d (.s [])),(.nil 4)])),
oo 7 (.mv (.t 15)),
⟨none,.st 4 (.t 8) (.t 17),none,0⟩]) (
.seq (.seq (.region false [
oo 18 (.mv (.t 7)),
oo 19 (.mv (.t 1)),
oo 20 (.len 0 (.t 19)),
oo 21 (.bin .geq (.t 18) (.t 20))]) (
.cond (.t 21) (
.seq (.region false [
oo 6 (.mv (.k (.d (.i .i64 1))))]) (
.ret)) (.skip))) (
.seq (.region false [
oo 22 (.mv (.t 1)),
oo 23 (.mv (.t 7)),
oo 24 (.ia 4 (.t 22) (.t 23)),
oo 25 (.ld true 4 (.t 24)),
oo 9 (.zero (.agg [(.d (.i .i64 0)),(.d (.i .i64 0)),(.d (.s [])),(.nil 4)])),
⟨none,.st 4 (.t 9) (.t 25),none,0⟩]) (
.seq (.region false [
oo 26 (.mv (.t 2)),
oo 27 (.ld true 4 (.t 8)),
oo 28 (.ld true 4 (.t 9)),
oo 29 (.callv (.t 26) [.t 27,.t 28] 4 true),
oo 10 (.mv (.t 29))]) (
.seq (.region false [
oo 30 (.mv (.t 10)),
oo 31 (.bin .neq (.t 30) (.k (.d (.i .i64 0))))]) (
.cond (.t 31) (
.seq (.region false [
oo 32 (.mv (.t 10)),
oo 6 (.mv (.t 32))]) (
.ret)) (.skip)))))))) (
.region false [
oo 33 (.bin .add (.t 13) (.k (.d (.i .i64 1)))),
oo 13 (.mv (.t 33))]))))))) (
.seq (.seq (.region false [
oo 34 (.mv (.t 0)),
oo 35 (.len 0 (.t 34)),
oo 36 (.mv (.t 1)),
oo 37 (.len 0 (.t 36)),
oo 38 (.bin .lss (.t 35) (.t 37))]) (
.cond (.t 38) (
.seq (.region false [
oo 6 (.mv (.k (.d (.i .i64 (-1)))))]) (
.ret)) (.skip))) (
.seq (.region false [
oo 6 (.mv (.k (.d (.i .i64 0))))]) (
.ret)))),[.slot 6]⟩
def Zo2:Notes:={ anns:=[⟨[0,1,2,11,12,13],[],[],[],[],true⟩],frz:=[],rgs:=[] }
def Znm:CFn:=⟨.seq (.region false [
oo 2 (.mv (.k (.d (.i .i64 0))))]) (
.seq (.seq (.region false [
oo 3 (.mv (.t 0))]) (
.cond (.t 3) (
.seq (.region false [
oo 2 (.mv (.k (.d (.i .i64 (-1)))))]) (
.ret)) (.skip))) (
.seq (.region false [
oo 2 (.mv (.k (.d (.i .i64 1))))]) (
.ret))),[.slot 2]⟩
def Zo3:Notes:={ anns:=[],frz:=[],rgs:=[] }
def Zlq:CFn:=⟨.seq (.region false [
oo 1 (.box (.t 0)),
oo 2 (.mv (.k (.d (.s []))))]) (
.seq (.seq (.region false [
oo 3 (.fa 3 (.t 1)),
oo 4 (.ld false 1 (.t 3)),
oo 5 (.len 0 (.t 4)),
oo 6 (.bin .eql (.t 5) (.k (.d (.i .i64 0))))]) (
.cond (.t 6) (
.seq (.region false [
oo 2 (.mv (.k (.d (.s []))))]) (
.ret)) (.skip))) (
.seq (.region false [
oo 7 (.fa 3 (.t 1)),
oo 8 (.ld false 1 (.t 7)),
oo 9 (.ia 4 (.t 8) (.k (.d (.i .i64 0)))),
oo 10 (.fa 2 (.t 9)),
oo 11 (.ld false 1 (.t 10)),
oo 2 (.mv (.t 11))]) (
.ret))),[.slot 2]⟩
def Zo4:Notes:={ anns:=[],frz:=[],rgs:=[] }
def Zi4:CFn:=⟨.seq (.region false [
oo 1 (.box (.t 0)),
oo 2 (.mv (.k (.d (.b false))))]) (
.seq (.seq (.region false [
oo 3 (.fa 0 (.t 1)),
oo 4 (.ld false 1 (.t 3))]) (
.block 0 (.seq (.region false [
oo 6 (.bin .eql (.t 4) (.k (.d (.i .i64 1)))),
oo 5 (.mv (.t 6))]) (
.cond (.t 5) (
.seq (.region false [
oo 2 (.mv (.k (.d (.b true))))]) (
.ret)) (.seq (.region false [
oo 8 (.bin .eql (.t 4) (.k (.d (.i .i64 2)))),
oo 7 (.mv (.t 8))]) (
.cond (.t 7) (
.seq (.region false [
oo 9 (.fa 1 (.t 1)),
oo 10 (.ld false 1 (.t 9)),
oo 11 (.bin .eql (.t 10) (.k (.d (.i .i64 0)))),
oo 12 (.mv (.t 11)),
⟨some 13,.fa 1 (.t 1),(some (12,false)),0⟩,
⟨some 14,.ld false 1 (.t 13),(some (12,false)),0⟩,
⟨some 15,.bin .eql (.t 14) (.k (.d (.i .i64 1))),(some (12,false)),0⟩,
oo 16 (.pick (.t 12) (.k (.d (.b true))) (.t 15)),
oo 2 (.mv (.t 16))]) (
.ret)) (.seq (.region false [
oo 18 (.bin .eql (.t 4) (.k (.d (.i .i64 7)))),
oo 17 (.mv (.t 18))]) (
.cond (.t 17) (
.seq (.region false [
oo 19 (.fa 1 (.t 1)),
oo 20 (.ld false 1 (.t 19)),
oo 21 (.bin .geq (.t 20) (.k (.d (.i .i64 1)))),
oo 22 (.mv (.t 21)),
⟨some 23,.fa 1 (.t 1),(some (22,true)),0⟩,
⟨some 24,.ld false 1 (.t 23),(some (22,true)),0⟩,
⟨some 25,.bin .leq (.t 24) (.k (.d (.i .i64 13))),(some (22,true)),0⟩,
oo 26 (.pick (.t 22) (.t 25) (.k (.d (.b false)))),
oo 2 (.mv (.t 26))]) (
.ret)) (.skip))))))))) (
.seq (.region false [
oo 27 (.fa 1 (.t 1)),
oo 28 (.ld false 1 (.t 27)),
oo 29 (.bin .eql (.t 28) (.k (.d (.i .i64 0)))),
oo 2 (.mv (.t 29))]) (
.ret))),[.slot 2]⟩
def Zo5:Notes:={ anns:=[],frz:=[],rgs:=[] }
def Zi5:CFn:=⟨.seq (.region false [
oo 1 (.box (.t 0)),
oo 2 (.mv (.k (.d (.b false))))]) (
.seq (.seq (.region false [
oo 3 (.fa 0 (.t 1)),
oo 4 (.ld false 1 (.t 3))]) (
.block 0 (.seq (.region false [
oo 6 (.bin .eql (.t 4) (.k (.d (.i .i64 4)))),
oo 5 (.mv (.t 6))]) (
.cond (.t 5) (
.seq (.region false [
oo 2 (.mv (.k (.d (.b true))))]) (
.ret)) (.seq (.region false [
oo 8 (.bin .eql (.t 4) (.k (.d (.i .i64 5)))),
oo 7 (.mv (.t 8))]) (
.cond (.t 7) (
.seq (.region false [
oo 9 (.fa 3 (.t 1)),
oo 10 (.ld false 1 (.t 9)),
oo 11 (.call 151 [.t 10,(.k (.d (.f 114 [] [])))] 4 true),
oo 2 (.mv (.t 11))]) (
.ret)) (.seq (.region false [
oo 13 (.bin .eql (.t 4) (.k (.d (.i .i64 6)))),
oo 12 (.mv (.t 13))]) (
.cond (.t 12) (
.seq (.region false [
oo 14 (.fa 3 (.t 1)),
oo 15 (.ld false 1 (.t 14)),
oo 16 (.call 141 [.t 15,(.k (.d (.f 152 [] [])))] 4 true),
oo 17 (.un .not (.t 16)),
oo 18 (.mv (.t 17)),
⟨some 19,.fa 3 (.t 1),(some (18,true)),0⟩,
⟨some 20,.ld false 1 (.t 19),(some (18,true)),0⟩,
⟨some 21,.call 151 [.t 20,(.k (.d (.f 154 [] [])))] 4 true,(some (18,true)),0⟩,
oo 22 (.pick (.t 18) (.t 21) (.k (.d (.b false)))),
oo 2 (.mv (.t 22))]) (
.ret)) (.skip))))))))) (
.seq (.region false [
oo 23 (.fa 3 (.t 1)),
oo 24 (.ld false 1 (.t 23)),
oo 25 (.len 0 (.t 24)),
oo 26 (.bin .eql (.t 25) (.k (.d (.i .i64 0)))),
oo 2 (.mv (.t 26))]) (
.ret))),[.slot 2]⟩
def Zo6:Notes:={ anns:=[],frz:=[],rgs:=[] }
def Zlr:CFn:=⟨.seq (.region false [
oo 4 (.mv (.k (.d (.b false))))]) (
.seq (.region false [
oo 5 (.mv (.t 0)),
oo 6 (.mv (.t 1)),
oo 7 (.call 155 [.t 5,.t 6] 4 true),
oo 8 (.bin .geq (.t 7) (.k (.d (.i .i64 0)))),
oo 4 (.mv (.t 8))]) (
.ret)),[.slot 4]⟩
def Zo7:Notes:={ anns:=[],frz:=[],rgs:=[] }
def Zls:CFn:=⟨.seq (.region false [
oo 1 (.box (.t 0)),
oo 2 (.mv (.k (.d (.b false))))]) (
.seq (.region false [
oo 3 (.fa 0 (.t 1)),
oo 4 (.ld false 1 (.t 3)),
oo 5 (.bin .eql (.t 4) (.k (.d (.i .i64 7)))),
oo 6 (.mv (.t 5)),
⟨some 7,.ld true 4 (.t 1),(some (6,false)),0⟩,
⟨some 8,.call 125 [.t 7] 0 true,(some (6,false)),0⟩,
⟨some 9,.un .not (.t 8),(some (6,false)),0⟩,
oo 10 (.pick (.t 6) (.k (.d (.b true))) (.t 9)),
oo 2 (.mv (.t 10))]) (
.ret)),[.slot 2]⟩
def Zo8:Notes:={ anns:=[],frz:=[],rgs:=[] }
def Zlt:CFn:=⟨.seq (.region false [
oo 2 (.mv (.k (.d (.b false))))]) (
.seq (.region false [
oo 3 (.mv (.t 0)),
oo 4 (.mv (.t 0)),
oo 5 (.bin .neq (.t 3) (.t 4)),
oo 2 (.mv (.t 5))]) (
.ret)),[.slot 2]⟩
def Zo9:Notes:={ anns:=[],frz:=[],rgs:=[] }
def Zlu:CFn:=⟨.seq (.region false [
oo 2 (.mv (.k (.d (.b false))))]) (
.seq (.region false [
oo 3 (.mv (.t 0)),
oo 4 (.mv (.t 0)),
oo 5 (.bin .neq (.t 3) (.t 4)),
oo 2 (.mv (.t 5))]) (
.ret)),[.slot 2]⟩
def Zpa:Notes:={ anns:=[],frz:=[],rgs:=[] }
def Zlv:CFn:=⟨.seq (.region false [
oo 2 (.mv (.k (.d (.b false))))]) (
.seq (.region false [
oo 3 (.mv (.t 0)),
oo 4 (.mv (.t 0)),
oo 5 (.bin .neq (.t 3) (.t 4)),
oo 2 (.mv (.t 5))]) (
.ret)),[.slot 2]⟩
def Zpb:Notes:={ anns:=[],frz:=[],rgs:=[] }
def Zlw:CFn:=⟨.seq (.region false [
oo 4 (.mv (.k (.d (.b false))))]) (
.seq (.seq (.region false [
oo 6 (.mv (.t 0)),
oo 7 (.len 0 (.t 6)),
oo 8 (.mv (.k (.d (.i .i64 0))))]) (
.block 0 (.loop ⟨[0,1,7,8],[],[],[],[],true⟩ (.seq (.region false [
oo 9 (.bin .lss (.t 8) (.t 7))]) (
.seq (.cond (.t 9) (
.skip) (.exit 0)) (
.seq (.block 1 (.seq (.region false [
oo 10 (.mv (.t 8)),
oo 5 (.mv (.t 10))]) (
.seq (.region true [
oo 11 (.mv (.t 5)),
⟨some 12,.bin .gtr (.t 11) (.k (.d (.i .i64 0))),none,1⟩,
⟨some 13,.mv (.t 12),none,3⟩,
⟨some 14,.mv (.t 1),(some (13,true)),7⟩,
⟨some 15,.mv (.t 0),(some (13,true)),7⟩,
⟨some 16,.mv (.t 5),(some (13,true)),7⟩,
⟨some 17,.bin .sub (.t 16) (.k (.d (.i .i64 1))),(some (13,true)),39⟩,
⟨some 18,.ia 4 (.t 15) (.t 17),(some (13,true)),119⟩,
⟨some 19,.ld true 4 (.t 18),(some (13,true)),247⟩,
⟨some 20,.mv (.t 0),(some (13,true)),7⟩,
⟨some 21,.mv (.t 5),(some (13,true)),7⟩,
⟨some 22,.ia 4 (.t 20) (.t 21),(some (13,true)),1543⟩,
⟨some 23,.ld true 4 (.t 22),(some (13,true)),3591⟩,
⟨some 24,.callv (.t 14) [.t 19,.t 23] 4 true,(some (13,true)),8191⟩,
⟨some 25,.bin .geq (.t 24) (.k (.d (.i .i64 0))),(some (13,true)),16383⟩,
⟨some 26,.pick (.t 13) (.t 25) (.k (.d (.b false))),none,32767⟩]) (
.cond (.t 26) (
.seq (.region false [
oo 4 (.mv (.k (.d (.b false))))]) (
.ret)) (.skip))))) (
.region false [
oo 27 (.bin .add (.t 8) (.k (.d (.i .i64 1)))),
oo 8 (.mv (.t 27))]))))))) (
.seq (.region false [
oo 4 (.mv (.k (.d (.b true))))]) (
.ret))),[.slot 4]⟩
def Zpc:Notes:={ anns:=[⟨[0,1,7,8],[],[],[],[],true⟩],frz:=[],rgs:=[] }
def Zlx:CFn:=⟨.seq (.region false [
oo 1 (.box (.t 0)),
oo 2 (.mv (.k (.d (.b false))))]) (
.seq (.region false [
oo 3 (.ld true 4 (.t 1)),
oo 4 (.call 153 [.t 3] 0 true),
oo 5 (.un .not (.t 4)),
oo 2 (.mv (.t 5))]) (
.ret)),[.slot 2]⟩
def Zpd:Notes:={ anns:=[],frz:=[],rgs:=[] }
def Zly:CFn:=⟨.seq (.region false [
oo 1 (.box (.t 0)),
oo 2 (.mv (.k (.d (.b false))))]) (
.seq (.region false [
oo 3 (.fa 0 (.t 1)),
oo 4 (.ld false 1 (.t 3)),
oo 5 (.bin .eql (.t 4) (.k (.d (.i .i64 4)))),
oo 6 (.mv (.t 5)),
⟨some 7,.fa 3 (.t 1),(some (6,true)),0⟩,
⟨some 8,.ld false 1 (.t 7),(some (6,true)),0⟩,
⟨some 9,.len 0 (.t 8),(some (6,true)),0⟩,
⟨some 10,.bin .eql (.t 9) (.k (.d (.i .i64 2))),(some (6,true)),0⟩,
oo 11 (.pick (.t 6) (.t 10) (.k (.d (.b false)))),
oo 12 (.mv (.t 11)),
⟨some 13,.fa 3 (.t 1),(some (12,true)),0⟩,
⟨some 14,.ld false 1 (.t 13),(some (12,true)),0⟩,
⟨some 15,.ia 4 (.t 14) (.k (.d (.i .i64 0))),(some (12,true)),0⟩,
⟨some 16,.fa 0 (.t 15),(some (12,true)),0⟩,
⟨some 17,.ld false 1 (.t 16),(some (12,true)),0⟩,
⟨some 18,.bin .eql (.t 17) (.k (.d (.i .i64 3))),(some (12,true)),0⟩,
oo 19 (.pick (.t 12) (.t 18) (.k (.d (.b false)))),
oo 2 (.mv (.t 19))]) (
.ret)),[.slot 2]⟩
def Zpe:Notes:={ anns:=[],frz:=[],rgs:=[] }
def Zlz:CFn:=⟨.seq (.region false [
oo 2 (.box (.t 0)),
oo 3 (.box (.t 1)),
oo 4 (.mv (.k (.d (.i .i64 0))))]) (
.seq (.region true [
oo 5 (.ld true 4 (.t 2)),
⟨some 6,.call 137 [.t 5] 0 true,none,1⟩,
oo 7 (.ld true 4 (.t 3)),
⟨some 8,.call 137 [.t 7] 0 true,none,7⟩,
⟨some 9,.call 129 [.t 6,.t 8] 0 true,none,15⟩,
⟨some 4,.mv (.t 9),none,31⟩]) (
.ret)),[.slot 4]⟩
def Zpf:Notes:={ anns:=[],frz:=[],rgs:=[] }
def Zl0:CFn:=⟨.seq (.region false [
oo 4 (.mv (.k (.d (.i .i64 0))))]) (
.seq (.seq (.region false [
oo 6 (.mv (.t 0)),
oo 7 (.len 0 (.t 6)),
oo 8 (.mv (.k (.d (.i .i64 0))))]) (
.block 0 (.loop ⟨[0,1,7,8],[],[],[],[],true⟩ (.seq (.region false [
oo 9 (.bin .lss (.t 8) (.t 7))]) (
.seq (.cond (.t 9) (
.skip) (.exit 0)) (
.seq (.block 1 (.seq (.region false [
oo 10 (.mv (.t 8)),
oo 5 (.mv (.t 10))]) (
.seq (.region false [
oo 11 (.mv (.t 1)),
oo 12 (.mv (.t 0)),
oo 13 (.mv (.t 5)),
oo 14 (.ia 4 (.t 12) (.t 13)),
oo 15 (.ld true 4 (.t 14)),
oo 16 (.callv (.t 11) [.t 15] 4 true)]) (
.cond (.t 16) (
.seq (.region false [
oo 17 (.mv (.t 5)),
oo 4 (.mv (.t 17))]) (
.ret)) (.skip))))) (
.region false [
oo 18 (.bin .add (.t 8) (.k (.d (.i .i64 1)))),
oo 8 (.mv (.t 18))]))))))) (
.seq (.region false [
oo 4 (.mv (.k (.d (.i .i64 (-1)))))]) (
.ret))),[.slot 4]⟩
def Zpg:Notes:={ anns:=[⟨[0,1,7,8],[],[],[],[],true⟩],frz:=[],rgs:=[] }
def zoc:CFn:=⟨.seq (.region false [
oo 2 (.zero (.agg [(.nil 3),(.nil 3),(.nil 3)]))]) (
.seq (.region false [
oo 12 (.build [(.nil 3),(.nil 3),(.nil 3)] []),
oo 3 (.zero (.agg [(.nil 3),(.nil 3),(.nil 3)])),
⟨none,.st 3 (.t 3) (.t 12),none,0⟩]) (
.seq (.seq (.region false [
oo 13 (.mv (.t 0)),
oo 14 (.call 123 [.t 13,(.k (.d (.i .i64 3)))] 4 true),
oo 15 (.bin .add (.t 14) (.k (.d (.i .i64 1)))),
oo 4 (.mv (.t 15))]) (
.block 0 (.loop ⟨[0,2,3,4],[],[(3,0)],[],[],true⟩ (.seq (.seq (.region false [
oo 16 (.mv (.t 4)),
oo 17 (.bin .gtr (.t 16) (.k (.d (.i .i64 0))))]) (
.cond (.t 17) (
.skip) (.exit 0))) (
.seq (.block 1 (.seq (.region false [
oo 20 (.fa 0 (.t 3)),
oo 21 (.ld false 1 (.t 20)),
oo 22 (.len 0 (.t 21)),
oo 23 (.bin .add (.k (.d (.i .i64 97))) (.t 22)),
oo 24 (.conv .u8 (.t 23)),
oo 25 (.bsl 1 1 [(.i .u8 0)] [(0,.t 24)]),
oo 26 (.bts (.t 25)),
oo 5 (.mv (.t 26))]) (
.region false [
oo 27 (.fa 0 (.t 3)),
oo 28 (.ld false 1 (.t 27)),
oo 29 (.mv (.t 5)),
oo 30 (.bin .add (.k (.d (.s [116]))) (.t 29)),
oo 31 (.mv (.t 5)),
oo 32 (.build [(.d (.s [])),(.d (.s [])),(.d (.b false))] [(0,1,.t 30),(1,1,.t 31)]),
oo 33 (.bsl 3 1 [(.s []),(.s []),(.b false)] [(0,.t 32)]),
oo 34 (.app 3 40 (.t 28) (.t 33)),
oo 35 (.fa 0 (.t 3)),
⟨none,.st 1 (.t 35) (.t 34),none,0⟩]))) (
.region false [
oo 18 (.mv (.t 4)),
oo 19 (.bin .sub (.t 18) (.k (.d (.i .i64 1)))),
oo 4 (.mv (.t 19))])))))) (
.seq (.seq (.region false [
oo 36 (.mv (.t 0)),
oo 37 (.call 123 [.t 36,(.k (.d (.i .i64 4)))] 4 true),
oo 38 (.bin .add (.t 37) (.k (.d (.i .i64 1)))),
oo 6 (.mv (.t 38))]) (
.block 2 (.loop ⟨[0,2,3,6],[],[(3,1)],[],[],true⟩ (.seq (.seq (.region false [
oo 39 (.mv (.t 6)),
oo 40 (.bin .gtr (.t 39) (.k (.d (.i .i64 0))))]) (
.cond (.t 40) (
.skip) (.exit 2))) (
.seq (.block 3 (.seq (.region false [
oo 43 (.fa 1 (.t 3)),
oo 44 (.ld false 1 (.t 43)),
oo 45 (.len 0 (.t 44)),
oo 46 (.bin .add (.k (.d (.i .i64 97))) (.t 45)),
oo 47 (.conv .u8 (.t 46)),
oo 48 (.bsl 1 1 [(.i .u8 0)] [(0,.t 47)]),
oo 49 (.bts (.t 48)),
oo 50 (.bin .add (.k (.d (.s [110]))) (.t 49)),
oo 51 (.build [(.d (.s [])),(.nil 1),(.nil 1)] [(0,1,.t 50)]),
oo 7 (.zero (.agg [(.d (.s [])),(.nil 1),(.nil 1)])),
⟨none,.st 3 (.t 7) (.t 51),none,0⟩]) (
.seq (.seq (.region false [
oo 52 (.fa 1 (.t 3)),
oo 53 (.ld false 1 (.t 52)),
oo 54 (.len 0 (.t 53)),
oo 55 (.bin .gtr (.t 54) (.k (.d (.i .i64 0))))]) (
.cond (.t 55) (
.region false [
oo 56 (.bsl 1 2 [(.s [])] [(0,(.k (.d (.s [105])))),(1,(.k (.d (.s [106]))))]),
oo 57 (.mv (.t 0)),
oo 58 (.call 123 [.t 57,(.k (.d (.i .i64 3)))] 4 true),
oo 59 (.slc 1 (.t 56) none (some (.t 58))),
oo 60 (.fa 1 (.t 7)),
⟨none,.st 1 (.t 60) (.t 59),none,0⟩]) (.skip))) (
.seq (.region false [
oo 61 (.bsl 1 2 [(.s [])] [(0,(.k (.d (.s [115])))),(1,(.k (.d (.s [117]))))]),
oo 62 (.mv (.t 0)),
oo 63 (.call 123 [.t 62,(.k (.d (.i .i64 3)))] 4 true),
oo 64 (.slc 1 (.t 61) none (some (.t 63))),
oo 65 (.fa 2 (.t 7)),
⟨none,.st 1 (.t 65) (.t 64),none,0⟩]) (
.region false [
oo 66 (.fa 1 (.t 3)),
oo 67 (.ld false 1 (.t 66)),
oo 68 (.ld true 3 (.t 7)),
oo 69 (.bsl 3 1 [(.s []),(.l 1 []),(.l 1 [])] [(0,.t 68)]),
oo 70 (.app 3 64 (.t 67) (.t 69)),
oo 71 (.fa 1 (.t 3)),
⟨none,.st 1 (.t 71) (.t 70),none,0⟩]))))) (
.region false [
oo 41 (.mv (.t 6)),
oo 42 (.bin .sub (.t 41) (.k (.d (.i .i64 1)))),
oo 6 (.mv (.t 42))])))))) (
.seq (.seq (.region false [
oo 72 (.mv (.t 0)),
oo 73 (.call 123 [.t 72,(.k (.d (.i .i64 7)))] 4 true),
oo 74 (.bin .add (.t 73) (.k (.d (.i .i64 1)))),
oo 8 (.mv (.t 74))]) (
.block 4 (.loop ⟨[0,2,3,8],[],[(3,2)],[],[],true⟩ (.seq (.seq (.region false [
oo 75 (.mv (.t 8)),
oo 76 (.bin .gtr (.t 75) (.k (.d (.i .i64 0))))]) (
.cond (.t 76) (
.skip) (.exit 4))) (
.seq (.block 5 (.seq (.region false [
oo 79 (.mv (.t 0)),
oo 80 (.fa 1 (.t 3)),
oo 81 (.ld false 1 (.t 80)),
oo 82 (.len 0 (.t 81)),
oo 83 (.call 123 [.t 79,.t 82] 4 true),
oo 84 (.build [(.d (.i .i64 0)),(.nil 2),(.nil 10)] [(0,1,.t 83)]),
oo 9 (.zero (.agg [(.d (.i .i64 0)),(.nil 2),(.nil 10)])),
⟨none,.st 3 (.t 9) (.t 84),none,0⟩]) (
.seq (.seq (.region false [
oo 85 (.mv (.t 0)),
oo 86 (.call 123 [.t 85,(.k (.d (.i .i64 4)))] 4 true),
oo 10 (.mv (.t 86))]) (
.block 6 (.loop ⟨[0,2,3,8,9,10],[],[(9,1)],[],[],true⟩ (.seq (.seq (.region false [
oo 87 (.mv (.t 10)),
oo 88 (.bin .gtr (.t 87) (.k (.d (.i .i64 0))))]) (
.cond (.t 88) (
.skip) (.exit 6))) (
.seq (.block 7 (.seq (.region false [
oo 91 (.mv (.t 0)),
oo 92 (.call 123 [.t 91,(.k (.d (.i .i64 5)))] 4 true),
oo 93 (.bin .lss (.t 92) (.k (.d (.i .i64 3)))),
oo 94 (.build [(.d (.b false)),(.d (.i .i64 0))] [(0,1,.t 93)]),
oo 11 (.zero (.agg [(.d (.b false)),(.d (.i .i64 0))])),
⟨none,.st 2 (.t 11) (.t 94),none,0⟩]) (
.seq (.region false [
oo 95 (.mv (.t 0)),
oo 96 (.fa 1 (.t 3)),
oo 97 (.ld false 1 (.t 96)),
oo 98 (.len 0 (.t 97)),
oo 99 (.call 123 [.t 95,.t 98] 4 true),
oo 100 (.fa 1 (.t 11)),
⟨none,.st 1 (.t 100) (.t 99),none,0⟩]) (
.seq (.seq (.region false [
oo 101 (.fa 0 (.t 11)),
oo 102 (.ld false 1 (.t 101))]) (
.cond (.t 102) (
.region false [
oo 103 (.mv (.t 0)),
oo 104 (.fa 0 (.t 3)),
oo 105 (.ld false 1 (.t 104)),
oo 106 (.len 0 (.t 105)),
oo 107 (.call 123 [.t 103,.t 106] 4 true),
oo 108 (.fa 1 (.t 11)),
⟨none,.st 1 (.t 108) (.t 107),none,0⟩]) (.skip))) (
.region false [
oo 109 (.fa 1 (.t 9)),
oo 110 (.ld false 1 (.t 109)),
oo 111 (.ld true 2 (.t 11)),
oo 112 (.bsl 2 1 [(.b false),(.i .i64 0)] [(0,.t 111)]),
oo 113 (.app 2 16 (.t 110) (.t 112)),
oo 114 (.fa 1 (.t 9)),
⟨none,.st 1 (.t 114) (.t 113),none,0⟩]))))) (
.region false [
oo 89 (.mv (.t 10)),
oo 90 (.bin .sub (.t 89) (.k (.d (.i .i64 1)))),
oo 10 (.mv (.t 90))])))))) (
.seq (.region false [
oo 115 (.mv (.t 0)),
oo 116 (.ld true 3 (.t 3)),
oo 117 (.ld true 3 (.t 9)),
oo 118 (.call 183 [.t 115,.t 116,.t 117] 4 true),
oo 119 (.fa 2 (.t 9)),
⟨none,.st 1 (.t 119) (.t 118),none,0⟩]) (
.region false [
oo 120 (.fa 2 (.t 3)),
oo 121 (.ld false 1 (.t 120)),
oo 122 (.ld true 3 (.t 9)),
oo 123 (.bsl 3 1 [(.i .i64 0),(.l 2 []),(.l 10 [])] [(0,.t 122)]),
oo 124 (.app 3 56 (.t 121) (.t 123)),
oo 125 (.fa 2 (.t 3)),
⟨none,.st 1 (.t 125) (.t 124),none,0⟩]))))) (
.region false [
oo 77 (.mv (.t 8)),
oo 78 (.bin .sub (.t 77) (.k (.d (.i .i64 1)))),
oo 8 (.mv (.t 78))])))))) (
.seq (.region false [
oo 126 (.ld true 3 (.t 3)),
⟨none,.st 3 (.t 2) (.t 126),none,0⟩]) (
.ret)))))),[.cell 2 true 3]⟩
def Zph:Notes:={ anns:=[⟨[0,2,3,4],[],[(3,0)],[],[],true⟩,⟨[0,2,3,6],[],[(3,1)],[],[],true⟩,⟨[0,2,3,8],[],[(3,2)],[],[],true⟩,⟨[0,2,3,8,9,10],[],[(9,1)],[],[],true⟩],frz:=[],rgs:=[] }
def Za1:CFn:=⟨.seq (.region false [
oo 1 (.box (.t 0)),
oo 2 (.mv (.k (.d (.b false))))]) (
.seq (.region false [
oo 3 (.ld true 3 (.t 1)),
oo 4 (.call 184 [.t 3] 0 true),
oo 5 (.mv (.t 4)),
⟨some 6,.fa 1 (.t 1),(some (5,true)),0⟩,
⟨some 7,.ld false 1 (.t 6),(some (5,true)),0⟩,
⟨some 8,.ia 3 (.t 7) (.k (.d (.i .i64 0))),(some (5,true)),0⟩,
⟨some 9,.fa 1 (.t 8),(some (5,true)),0⟩,
⟨some 10,.ld false 1 (.t 9),(some (5,true)),0⟩,
⟨some 11,.len 0 (.t 10),(some (5,true)),0⟩,
⟨some 12,.bin .eql (.t 11) (.k (.d (.i .i64 0))),(some (5,true)),0⟩,
oo 13 (.pick (.t 5) (.t 12) (.k (.d (.b false)))),
oo 14 (.mv (.t 13)),
⟨some 15,.fa 2 (.t 1),(some (14,true)),0⟩,
⟨some 16,.ld false 1 (.t 15),(some (14,true)),0⟩,
⟨some 17,.mkf 186 [] [.t 1] true,(some (14,true)),0⟩,
⟨some 18,.call 185 [.t 16,.t 17] 4 true,(some (14,true)),0⟩,
oo 19 (.pick (.t 14) (.t 18) (.k (.d (.b false)))),
oo 2 (.mv (.t 19))]) (
.ret)),[.slot 2]⟩
def Zpi:Notes:={ anns:=[],frz:=[0,0,0,0,0,0,0,0,0,0,0,0,0,0,0,0,1],rgs:=[] }
def Znn:CFn:=⟨.seq (.region false [
oo 2 (.zero (.agg [(.nil 3),(.nil 3),(.nil 3)]))]) (
.seq (.region false [
oo 4 (.build [(.d (.s [])),(.d (.s [])),(.d (.b false))] [(0,1,(.k (.d (.s [110,117,109])))),(1,1,(.k (.d (.s [91,48,45,57,93,43]))))]),
oo 5 (.build [(.d (.s [])),(.d (.s [])),(.d (.b false))] [(0,1,(.k (.d (.s [105,100])))),(1,1,(.k (.d (.s [91,97,45,122,93,43]))))]),
oo 6 (.build [(.d (.s [])),(.d (.s [])),(.d (.b false))] [(0,1,(.k (.d (.s [112,108,117,115])))),(1,1,(.k (.d (.s [92,43]))))]),
oo 7 (.build [(.d (.s [])),(.d (.s [])),(.d (.b false))] [(0,1,(.k (.d (.s [115,116,97,114])))),(1,1,(.k (.d (.s [92,42]))))]),
oo 8 (.build [(.d (.s [])),(.d (.s [])),(.d (.b false))] [(0,1,(.k (.d (.s [111,112,101,110])))),(1,1,(.k (.d (.s [92,40]))))]),
oo 9 (.build [(.d (.s [])),(.d (.s [])),(.d (.b false))] [(0,1,(.k (.d (.s [99,108,111,115,101])))),(1,1,(.k (.d (.s [92,41]))))]),
oo 10 (.build [(.d (.s [])),(.d (.s [])),(.d (.b false))] [(0,1,(.k (.d (.s [98,108,97,110,107])))),(1,1,(.k (.d (.s [91,32,92,45,93,43])))),(2,1,(.k (.d (.b true))))]),
oo 11 (.build [(.d (.s [])),(.d (.s [])),(.d (.b false))] [(0,1,(.k (.d (.s [108,101,116])))),(1,1,(.k (.d (.s [61]))))]),
oo 12 (.bsa 3 8 [(.s []),(.s []),(.b false)] [(0,.t 4),(1,.t 5),(2,.t 6),(3,.t 7),(4,.t 8),(5,.t 9),(6,.t 10),(7,.t 11)]),
oo 13 (.build [(.nil 3),(.nil 3),(.nil 3)] [(0,1,.t 12)]),
oo 3 (.zero (.agg [(.nil 3),(.nil 3),(.nil 3)])),
⟨none,.st 3 (.t 3) (.t 13),none,0⟩]) (
.seq (.region false [
oo 14 (.fa 0 (.t 3)),
oo 15 (.ld false 1 (.t 14)),
oo 16 (.ia 3 (.t 15) (.k (.d (.i .i64 6)))),
oo 17 (.fa 1 (.t 16)),
⟨none,.st 1 (.t 17) (.k (.d (.s [32,43]))),none,0⟩]) (
.seq (.region false [
oo 18 (.bsa 1 2 [(.s [])] [(0,(.k (.d (.s [118,97,108])))),(1,(.k (.d (.s [98,97,100]))))]),
oo 19 (.build [(.d (.s [])),(.nil 1),(.nil 1)] [(0,1,(.k (.d (.s [115])))),(2,1,.t 18)]),
oo 20 (.bsa 1 1 [(.s [])] [(0,(.k (.d (.s [101,110,118]))))]),
oo 21 (.bsa 1 1 [(.s [])] [(0,(.k (.d (.s [118,97,108]))))]),
oo 22 (.build [(.d (.s [])),(.nil 1),(.nil 1)] [(0,1,(.k (.d (.s [101])))),(1,1,.t 20),(2,1,.t 21)]),
oo 23 (.bsa 1 2 [(.s [])] [(0,(.k (.d (.s [101,110,118])))),(1,(.k (.d (.s [108,101,102,116]))))]),
oo 24 (.bsa 1 1 [(.s [])] [(0,(.k (.d (.s [118,97,108]))))]),
oo 25 (.build [(.d (.s [])),(.nil 1),(.nil 1)] [(0,1,(.k (.d (.s [109,111,114,101])))),(1,1,.t 23),(2,1,.t 24)]),
oo 26 (.bsa 1 1 [(.s [])] [(0,(.k (.d (.s [101,110,118]))))]),
oo 27 (.bsa 1 2 [(.s [])] [(0,(.k (.d (.s [118,97,108])))),(1,(.k (.d (.s [115,105,122,101]))))]),
oo 28 (.build [(.d (.s [])),(.nil 1),(.nil 1)] [(0,1,(.k (.d (.s [102])))),(1,1,.t 26),(2,1,.t 27)]),
oo 29 (.bsa 3 4 [(.s []),(.l 1 []),(.l 1 [])] [(0,.t 19),(1,.t 22),(2,.t 25),(3,.t 28)]),
oo 30 (.fa 1 (.t 3)),
⟨none,.st 1 (.t 30) (.t 29),none,0⟩]) (
.seq (.region false [
oo 31 (.build [(.d (.b false)),(.d (.i .i64 0))] [(1,1,(.k (.d (.i .i64 1))))]),
oo 32 (.bsa 2 1 [(.b false),(.i .i64 0)] [(0,.t 31)]),
oo 33 (.build [(.d (.i .i64 0)),(.d (.i .i64 0)),(.d (.i .i64 0)),(.d (.s [])),(.nil 4),(.d (.i .i64 0)),(.d (.i .i64 0)),(.nil 8)] [(0,1,(.k (.d (.i .i64 22))))]),
oo 34 (.build [(.d (.i .i64 0)),(.d (.i .i64 0)),(.d (.s [])),(.nil 4)] [(0,1,(.k (.d (.i .i64 3)))),(2,1,(.k (.d (.s [120]))))]),
oo 35 (.call 188 [.t 34] 0 true),
oo 36 (.build [(.d (.i .i64 0)),(.d (.i .i64 0)),(.d (.s [])),(.nil 4)] [(0,1,(.k (.d (.i .i64 1)))),(1,1,(.k (.d (.i .i64 5))))]),
oo 37 (.call 188 [.t 36] 0 true),
oo 38 (.bsa 8 3 [(.i .i64 0),(.i .i64 0),(.i .i64 0),(.s []),(.l 4 []),(.i .i64 0),(.i .i64 0),(.l 8 [])] [(0,.t 33),(1,.t 35),(2,.t 37)]),
oo 39 (.build [(.d (.i .i64 0)),(.d (.i .i64 0)),(.d (.i .i64 0)),(.d (.s [])),(.nil 4),(.d (.i .i64 0)),(.d (.i .i64 0)),(.nil 8)] [(0,1,(.k (.d (.i .i64 16)))),(7,1,.t 38)]),
oo 40 (.build [(.d (.i .i64 0)),(.d (.i .i64 0)),(.d (.i .i64 0)),(.d (.i .i64 0)),(.d (.i .i64 0)),(.d (.s [])),(.nil 4),(.d (.i .i64 0)),(.d (.i .i64 0)),(.nil 8)] [(0,1,(.k (.d (.i .i64 1)))),(1,1,(.k (.d (.i .i64 0)))),(2,8,.t 39)]),
oo 41 (.call 189 [(.k (.d (.i .i64 1))),(.k (.d (.i .i64 1)))] 0 true),
oo 42 (.build [(.d (.i .i64 0)),(.d (.i .i64 0)),(.d (.i .i64 0)),(.d (.i .i64 0)),(.d (.i .i64 0)),(.d (.s [])),(.nil 4),(.d (.i .i64 0)),(.d (.i .i64 0)),(.nil 8)] [(0,1,(.k (.d (.i .i64 0)))),(1,1,(.k (.d (.i .i64 0)))),(2,8,.t 41)]),
oo 43 (.call 189 [(.k (.d (.i .i64 1))),(.k (.d (.i .i64 1)))] 0 true),
oo 44 (.build [(.d (.i .i64 0)),(.d (.i .i64 0)),(.d (.s [])),(.nil 4)] [(0,1,(.k (.d (.i .i64 1)))),(1,1,(.k (.d (.i .i64 10))))]),
oo 45 (.call 188 [.t 44] 0 true),
oo 46 (.bsa 8 2 [(.i .i64 0),(.i .i64 0),(.i .i64 0),(.s []),(.l 4 []),(.i .i64 0),(.i .i64 0),(.l 8 [])] [(0,.t 43),(1,.t 45)]),
oo 47 (.build [(.d (.i .i64 0)),(.d (.i .i64 0)),(.d (.i .i64 0)),(.d (.s [])),(.nil 4),(.d (.i .i64 0)),(.d (.i .i64 0)),(.nil 8)] [(0,1,(.k (.d (.i .i64 8)))),(7,1,.t 46)]),
oo 48 (.build [(.d (.i .i64 0)),(.d (.i .i64 0)),(.d (.i .i64 0)),(.d (.i .i64 0)),(.d (.i .i64 0)),(.d (.s [])),(.nil 4),(.d (.i .i64 0)),(.d (.i .i64 0)),(.nil 8)] [(0,1,(.k (.d (.i .i64 0)))),(1,1,(.k (.d (.i .i64 1)))),(2,8,.t 47)]),
oo 49 (.bsa 10 3 [(.i .i64 0),(.i .i64 0),(.i .i64 0),(.i .i64 0),(.i .i64 0),(.s []),(.l 4 []),(.i .i64 0),(.i .i64 0),(.l 8 [])] [(0,.t 40),(1,.t 42),(2,.t 48)]),
oo 50 (.build [(.d (.i .i64 0)),(.nil 2),(.nil 10)] [(0,1,(.k (.d (.i .i64 0)))),(1,1,.t 32),(2,1,.t 49)]),
oo 51 (.build [(.d (.b false)),(.d (.i .i64 0))] [(1,1,(.k (.d (.i .i64 3))))]),
oo 52 (.build [(.d (.b false)),(.d (.i .i64 0))] [(1,1,(.k (.d (.i .i64 2))))]),
oo 53 (.bsa 2 2 [(.b false),(.i .i64 0)] [(0,.t 51),(1,.t 52)]),
oo 54 (.call 189 [(.k (.d (.i .i64 0))),(.k (.d (.i .i64 0)))] 0 true),
oo 55 (.build [(.d (.i .i64 0)),(.d (.i .i64 0)),(.d (.i .i64 0)),(.d (.i .i64 0)),(.d (.i .i64 0)),(.d (.s [])),(.nil 4),(.d (.i .i64 0)),(.d (.i .i64 0)),(.nil 8)] [(0,1,(.k (.d (.i .i64 1)))),(1,1,(.k (.d (.i .i64 0)))),(2,8,.t 54)]),
oo 56 (.call 189 [(.k (.d (.i .i64 0))),(.k (.d (.i .i64 0)))] 0 true),
oo 57 (.build [(.d (.i .i64 0)),(.d (.i .i64 0)),(.d (.i .i64 0)),(.d (.i .i64 0)),(.d (.i .i64 0)),(.d (.s [])),(.nil 4),(.d (.i .i64 0)),(.d (.i .i64 0)),(.nil 8)] [(0,1,(.k (.d (.i .i64 2)))),(1,1,(.k (.d (.i .i64 0)))),(2,8,.t 56)]),
oo 58 (.call 189 [(.k (.d (.i .i64 1))),(.k (.d (.i .i64 1)))] 0 true),
oo 59 (.build [(.d (.i .i64 0)),(.d (.i .i64 0)),(.d (.i .i64 0)),(.d (.i .i64 0)),(.d (.i .i64 0)),(.d (.s [])),(.nil 4),(.d (.i .i64 0)),(.d (.i .i64 0)),(.nil 8)] [(0,1,(.k (.d (.i .i64 2)))),(1,1,(.k (.d (.i .i64 1)))),(2,8,.t 58)]),
oo 60 (.call 189 [(.k (.d (.i .i64 2))),(.k (.d (.i .i64 2)))] 0 true),
oo 61 (.build [(.d (.i .i64 0)),(.d (.i .i64 0)),(.d (.i .i64 0)),(.d (.i .i64 0)),(.d (.i .i64 0)),(.d (.s [])),(.nil 4),(.d (.i .i64 0)),(.d (.i .i64 0)),(.nil 8)] [(0,1,(.k (.d (.i .i64 0)))),(1,1,(.k (.d (.i .i64 1)))),(2,8,.t 60)]),
oo 62 (.bsa 10 4 [(.i .i64 0),(.i .i64 0),(.i .i64 0),(.i .i64 0),(.i .i64 0),(.s []),(.l 4 []),(.i .i64 0),(.i .i64 0),(.l 8 [])] [(0,.t 55),(1,.t 57),(2,.t 59),(3,.t 61)]),
oo 63 (.build [(.d (.i .i64 0)),(.nil 2),(.nil 10)] [(0,1,(.k (.d (.i .i64 1)))),(1,1,.t 53),(2,1,.t 62)]),
oo 64 (.call 190 [(.k (.d (.i .i64 2)))] 0 true),
oo 65 (.build [(.d (.b false)),(.d (.i .i64 0))] [(1,1,(.k (.d (.i .i64 3))))]),
oo 66 (.build [(.d (.b false)),(.d (.i .i64 0))] [(1,1,(.k (.d (.i .i64 2))))]),
oo 67 (.bsa 2 3 [(.b false),(.i .i64 0)] [(0,.t 64),(1,.t 65),(2,.t 66)]),
oo 68 (.call 189 [(.k (.d (.i .i64 0))),(.k (.d (.i .i64 0)))] 0 true),
oo 69 (.build [(.d (.i .i64 0)),(.d (.i .i64 0)),(.d (.i .i64 0)),(.d (.i .i64 0)),(.d (.i .i64 0)),(.d (.s [])),(.nil 4),(.d (.i .i64 0)),(.d (.i .i64 0)),(.nil 8)] [(0,1,(.k (.d (.i .i64 2)))),(1,1,(.k (.d (.i .i64 0)))),(2,8,.t 68)]),
oo 70 (.call 189 [(.k (.d (.i .i64 0))),(.k (.d (.i .i64 0)))] 0 true),
oo 71 (.build [(.d (.i .i64 0)),(.d (.i .i64 0)),(.d (.i .i64 0)),(.d (.i .i64 0)),(.d (.i .i64 0)),(.d (.s [])),(.nil 4),(.d (.i .i64 0)),(.d (.i .i64 0)),(.nil 8)] [(0,1,(.k (.d (.i .i64 3)))),(1,1,(.k (.d (.i .i64 0)))),(2,8,.t 70)]),
oo 72 (.call 189 [(.k (.d (.i .i64 0))),(.k (.d (.i .i64 1)))] 0 true),
oo 73 (.call 189 [(.k (.d (.i .i64 2))),(.k (.d (.i .i64 1)))] 0 true),
oo 74 (.bsa 8 2 [(.i .i64 0),(.i .i64 0),(.i .i64 0),(.s []),(.l 4 []),(.i .i64 0),(.i .i64 0),(.l 8 [])] [(0,.t 72),(1,.t 73)]),
oo 75 (.build [(.d (.i .i64 0)),(.d (.i .i64 0)),(.d (.i .i64 0)),(.d (.s [])),(.nil 4),(.d (.i .i64 0)),(.d (.i .i64 0)),(.nil 8)] [(0,1,(.k (.d (.i .i64 4)))),(7,1,.t 74)]),
oo 76 (.build [(.d (.i .i64 0)),(.d (.i .i64 0)),(.d (.i .i64 0)),(.d (.i .i64 0)),(.d (.i .i64 0)),(.d (.s [])),(.nil 4),(.d (.i .i64 0)),(.d (.i .i64 0)),(.nil 8)] [(0,1,(.k (.d (.i .i64 3)))),(1,1,(.k (.d (.i .i64 1)))),(2,8,.t 75)]),
oo 77 (.call 189 [(.k (.d (.i .i64 3))),(.k (.d (.i .i64 2)))] 0 true),
oo 78 (.build [(.d (.i .i64 0)),(.d (.i .i64 0)),(.d (.i .i64 0)),(.d (.i .i64 0)),(.d (.i .i64 0)),(.d (.s [])),(.nil 4),(.d (.i .i64 0)),(.d (.i .i64 0)),(.nil 8)] [(0,1,(.k (.d (.i .i64 0)))),(1,1,(.k (.d (.i .i64 2)))),(2,8,.t 77)]),
oo 79 (.bsa 10 4 [(.i .i64 0),(.i .i64 0),(.i .i64 0),(.i .i64 0),(.i .i64 0),(.s []),(.l 4 []),(.i .i64 0),(.i .i64 0),(.l 8 [])] [(0,.t 69),(1,.t 71),(2,.t 76),(3,.t 78)]),
oo 80 (.build [(.d (.i .i64 0)),(.nil 2),(.nil 10)] [(0,1,(.k (.d (.i .i64 2)))),(1,1,.t 67),(2,1,.t 79)]),
oo 81 (.call 189 [(.k (.d (.i .i64 0))),(.k (.d (.i .i64 1)))] 0 true),
oo 82 (.build [(.d (.i .i64 0)),(.d (.i .i64 0)),(.d (.i .i64 0)),(.d (.i .i64 0)),(.d (.i .i64 0)),(.d (.s [])),(.nil 4),(.d (.i .i64 0)),(.d (.i .i64 0)),(.nil 8)] [(0,1,(.k (.d (.i .i64 0)))),(1,1,(.k (.d (.i .i64 2)))),(2,8,.t 81)]),
oo 83 (.bsa 10 1 [(.i .i64 0),(.i .i64 0),(.i .i64 0),(.i .i64 0),(.i .i64 0),(.s []),(.l 4 []),(.i .i64 0),(.i .i64 0),(.l 8 [])] [(0,.t 82)]),
oo 84 (.build [(.d (.i .i64 0)),(.nil 2),(.nil 10)] [(0,1,(.k (.d (.i .i64 2)))),(2,1,.t 83)]),
oo 85 (.call 190 [(.k (.d (.i .i64 0)))] 0 true),
oo 86 (.bsa 2 1 [(.b false),(.i .i64 0)] [(0,.t 85)]),
oo 87 (.build [(.d (.i .i64 0)),(.d (.i .i64 0)),(.d (.i .i64 0)),(.d (.s [])),(.nil 4),(.d (.i .i64 0)),(.d (.i .i64 0)),(.nil 8)] [(0,1,(.k (.d (.i .i64 3)))),(5,1,(.k (.d (.i .i64 1))))]),
oo 88 (.build [(.d (.i .i64 0)),(.d (.i .i64 0)),(.d (.i .i64 0)),(.d (.i .i64 0)),(.d (.i .i64 0)),(.d (.s [])),(.nil 4),(.d (.i .i64 0)),(.d (.i .i64 0)),(.nil 8)] [(0,1,(.k (.d (.i .i64 0)))),(1,1,(.k (.d (.i .i64 1)))),(2,8,.t 87)]),
oo 89 (.build [(.d (.i .i64 0)),(.d (.i .i64 0)),(.d (.s [])),(.nil 4)] [(0,1,(.k (.d (.i .i64 1)))),(1,1,(.k (.d (.i .i64 1))))]),
oo 90 (.call 188 [.t 89] 0 true),
oo 91 (.build [(.d (.i .i64 0)),(.d (.i .i64 0)),(.d (.i .i64 0)),(.d (.i .i64 0)),(.d (.i .i64 0)),(.d (.s [])),(.nil 4),(.d (.i .i64 0)),(.d (.i .i64 0)),(.nil 8)] [(0,1,(.k (.d (.i .i64 0)))),(1,1,(.k (.d (.i .i64 2)))),(2,8,.t 90)]),
oo 92 (.bsa 10 2 [(.i .i64 0),(.i .i64 0),(.i .i64 0),(.i .i64 0),(.i .i64 0),(.s []),(.l 4 []),(.i .i64 0),(.i .i64 0),(.l 8 [])] [(0,.t 88),(1,.t 91)]),
oo 93 (.build [(.d (.i .i64 0)),(.nil 2),(.nil 10)] [(0,1,(.k (.d (.i .i64 3)))),(1,1,.t 86),(2,1,.t 92)]),
oo 94 (.call 190 [(.k (.d (.i .i64 1)))] 0 true),
oo 95 (.bsa 2 1 [(.b false),(.i .i64 0)] [(0,.t 94)]),
oo 96 (.call 189 [(.k (.d (.i .i64 0))),(.k (.d (.i .i64 0)))] 0 true),
oo 97 (.build [(.d (.i .i64 0)),(.d (.i .i64 0)),(.d (.i .i64 0)),(.d (.s [])),(.nil 4),(.d (.i .i64 0)),(.d (.i .i64 0)),(.nil 8)] [(0,1,(.k (.d (.i .i64 2)))),(5,1,(.k (.d (.i .i64 1))))]),
oo 98 (.bsa 8 2 [(.i .i64 0),(.i .i64 0),(.i .i64 0),(.s []),(.l 4 []),(.i .i64 0),(.i .i64 0),(.l 8 [])] [(0,.t 96),(1,.t 97)]),
oo 99 (.build [(.d (.i .i64 0)),(.d (.i .i64 0)),(.d (.i .i64 0)),(.d (.s [])),(.nil 4),(.d (.i .i64 0)),(.d (.i .i64 0)),(.nil 8)] [(0,1,(.k (.d (.i .i64 17)))),(7,1,.t 98)]),
oo 100 (.build [(.d (.i .i64 0)),(.d (.i .i64 0)),(.d (.i .i64 0)),(.d (.i .i64 0)),(.d (.i .i64 0)),(.d (.s [])),(.nil 4),(.d (.i .i64 0)),(.d (.i .i64 0)),(.nil 8)] [(0,1,(.k (.d (.i .i64 0)))),(1,1,(.k (.d (.i .i64 1)))),(2,8,.t 99)]),
oo 101 (.build [(.d (.i .i64 0)),(.d (.i .i64 0)),(.d (.i .i64 0)),(.d (.s [])),(.nil 4),(.d (.i .i64 0)),(.d (.i .i64 0)),(.nil 8)] [(0,1,(.k (.d (.i .i64 2)))),(5,1,(.k (.d (.i .i64 1))))]),
oo 102 (.bsa 8 1 [(.i .i64 0),(.i .i64 0),(.i .i64 0),(.s []),(.l 4 []),(.i .i64 0),(.i .i64 0),(.l 8 [])] [(0,.t 101)]),
oo 103 (.build [(.d (.i .i64 0)),(.d (.i .i64 0)),(.d (.i .i64 0)),(.d (.s [])),(.nil 4),(.d (.i .i64 0)),(.d (.i .i64 0)),(.nil 8)] [(0,1,(.k (.d (.i .i64 15)))),(7,1,.t 102)]),
oo 104 (.build [(.d (.i .i64 0)),(.d (.i .i64 0)),(.d (.i .i64 0)),(.d (.i .i64 0)),(.d (.i .i64 0)),(.d (.s [])),(.nil 4),(.d (.i .i64 0)),(.d (.i .i64 0)),(.nil 8)] [(0,1,(.k (.d (.i .i64 0)))),(1,1,(.k (.d (.i .i64 2)))),(2,8,.t 103)]),
oo 105 (.bsa 10 2 [(.i .i64 0),(.i .i64 0),(.i .i64 0),(.i .i64 0),(.i .i64 0),(.s []),(.l 4 []),(.i .i64 0),(.i .i64 0),(.l 8 [])] [(0,.t 100),(1,.t 104)]),
oo 106 (.build [(.d (.i .i64 0)),(.nil 2),(.nil 10)] [(0,1,(.k (.d (.i .i64 3)))),(1,1,.t 95),(2,1,.t 105)]),
oo 107 (.call 190 [(.k (.d (.i .i64 4)))] 0 true),
oo 108 (.build [(.d (.b false)),(.d (.i .i64 0))] [(1,1,(.k (.d (.i .i64 1))))]),
oo 109 (.call 190 [(.k (.d (.i .i64 5)))] 0 true),
oo 110 (.bsa 2 3 [(.b false),(.i .i64 0)] [(0,.t 107),(1,.t 108),(2,.t 109)]),
oo 111 (.call 189 [(.k (.d (.i .i64 0))),(.k (.d (.i .i64 0)))] 0 true),
oo 112 (.build [(.d (.i .i64 0)),(.d (.i .i64 0)),(.d (.i .i64 0)),(.d (.i .i64 0)),(.d (.i .i64 0)),(.d (.s [])),(.nil 4),(.d (.i .i64 0)),(.d (.i .i64 0)),(.nil 8)] [(0,1,(.k (.d (.i .i64 2)))),(1,1,(.k (.d (.i .i64 0)))),(2,8,.t 111)]),
oo 113 (.call 189 [(.k (.d (.i .i64 2))),(.k (.d (.i .i64 1)))] 0 true),
oo 114 (.build [(.d (.i .i64 0)),(.d (.i .i64 0)),(.d (.i .i64 0)),(.d (.i .i64 0)),(.d (.i .i64 0)),(.d (.s [])),(.nil 4),(.d (.i .i64 0)),(.d (.i .i64 0)),(.nil 8)] [(0,1,(.k (.d (.i .i64 0)))),(1,1,(.k (.d (.i .i64 1)))),(2,8,.t 113)]),
oo 115 (.build [(.d (.i .i64 0)),(.d (.i .i64 0)),(.d (.s [])),(.nil 4)] [(0,1,(.k (.d (.i .i64 1)))),(1,1,(.k (.d (.i .i64 2))))]),
oo 116 (.call 188 [.t 115] 0 true),
oo 117 (.build [(.d (.i .i64 0)),(.d (.i .i64 0)),(.d (.i .i64 0)),(.d (.i .i64 0)),(.d (.i .i64 0)),(.d (.s [])),(.nil 4),(.d (.i .i64 0)),(.d (.i .i64 0)),(.nil 8)] [(0,1,(.k (.d (.i .i64 0)))),(1,1,(.k (.d (.i .i64 2)))),(2,8,.t 116)]),
oo 118 (.bsa 10 3 [(.i .i64 0),(.i .i64 0),(.i .i64 0),(.i .i64 0),(.i .i64 0),(.s []),(.l 4 []),(.i .i64 0),(.i .i64 0),(.l 8 [])] [(0,.t 112),(1,.t 114),(2,.t 117)]),
oo 119 (.build [(.d (.i .i64 0)),(.nil 2),(.nil 10)] [(0,1,(.k (.d (.i .i64 3)))),(1,1,.t 110),(2,1,.t 118)]),
oo 120 (.bsa 3 7 [(.i .i64 0),(.l 2 []),(.l 10 [])] [(0,.t 50),(1,.t 63),(2,.t 80),(3,.t 84),(4,.t 93),(5,.t 106),(6,.t 119)]),
oo 121 (.fa 2 (.t 3)),
⟨none,.st 1 (.t 121) (.t 120),none,0⟩]) (
.seq (.seq (.region false [
oo 122 (.mv (.t 0)),
oo 123 (.bin .rem (.t 122) (.k (.d (.i .i64 4))))]) (
.block 0 (.seq (.region false [
oo 125 (.bin .eql (.t 123) (.k (.d (.i .i64 1)))),
oo 124 (.mv (.t 125))]) (
.cond (.t 124) (
.region true [
oo 126 (.fa 2 (.t 3)),
⟨some 127,.ld false 1 (.t 126),none,1⟩,
oo 128 (.call 190 [(.k (.d (.i .i64 7)))] 0 true),
⟨some 129,.call 190 [(.k (.d (.i .i64 1)))] 0 true,none,4⟩,
oo 130 (.build [(.d (.b false)),(.d (.i .i64 0))] [(1,1,(.k (.d (.i .i64 3))))]),
oo 131 (.build [(.d (.b false)),(.d (.i .i64 0))] [(1,1,(.k (.d (.i .i64 3))))]),
⟨some 132,.bsa 2 4 [(.b false),(.i .i64 0)] [(0,.t 128),(1,.t 129),(2,.t 130),(3,.t 131)],none,60⟩,
⟨some 133,.call 189 [(.k (.d (.i .i64 0))),(.k (.d (.i .i64 0)))] 0 true,none,12⟩,
⟨some 134,.build [(.d (.i .i64 0)),(.d (.i .i64 0)),(.d (.i .i64 0)),(.d (.i .i64 0)),(.d (.i .i64 0)),(.d (.s [])),(.nil 4),(.d (.i .i64 0)),(.d (.i .i64 0)),(.nil 8)] [(0,1,(.k (.d (.i .i64 3)))),(1,1,(.k (.d (.i .i64 0)))),(2,8,.t 133)],none,140⟩,
⟨some 135,.call 189 [(.k (.d (.i .i64 0))),(.k (.d (.i .i64 0)))] 0 true,none,140⟩,
oo 136 (.build [(.d (.i .i64 0)),(.d (.i .i64 0)),(.d (.i .i64 0)),(.d (.s [])),(.nil 4),(.d (.i .i64 0)),(.d (.i .i64 0)),(.nil 8)] [(0,1,(.k (.d (.i .i64 2)))),(5,1,(.k (.d (.i .i64 2))))]),
⟨some 137,.call 189 [(.k (.d (.i .i64 3))),(.k (.d (.i .i64 1)))] 0 true,none,652⟩,
⟨some 138,.bsa 8 3 [(.i .i64 0),(.i .i64 0),(.i .i64 0),(.s []),(.l 4 []),(.i .i64 0),(.i .i64 0),(.l 8 [])] [(0,.t 135),(1,.t 136),(2,.t 137)],none,3724⟩,
⟨some 139,.build [(.d (.i .i64 0)),(.d (.i .i64 0)),(.d (.i .i64 0)),(.d (.s [])),(.nil 4),(.d (.i .i64 0)),(.d (.i .i64 0)),(.nil 8)] [(0,1,(.k (.d (.i .i64 16)))),(7,1,.t 138)],none,7820⟩,
⟨some 140,.build [(.d (.i .i64 0)),(.d (.i .i64 0)),(.d (.i .i64 0)),(.d (.i .i64 0)),(.d (.i .i64 0)),(.d (.s [])),(.nil 4),(.d (.i .i64 0)),(.d (.i .i64 0)),(.nil 8)] [(0,1,(.k (.d (.i .i64 4)))),(1,1,(.k (.d (.i .i64 0)))),(2,8,.t 139)],none,16012⟩,
⟨some 141,.call 189 [(.k (.d (.i .i64 4))),(.k (.d (.i .i64 1)))] 0 true,none,2700⟩,
⟨some 142,.build [(.d (.i .i64 0)),(.d (.i .i64 0)),(.d (.i .i64 0)),(.d (.i .i64 0)),(.d (.i .i64 0)),(.d (.s [])),(.nil 4),(.d (.i .i64 0)),(.d (.i .i64 0)),(.nil 8)] [(0,1,(.k (.d (.i .i64 0)))),(1,1,(.k (.d (.i .i64 1)))),(2,8,.t 141)],none,35468⟩,
⟨some 143,.call 189 [(.k (.d (.i .i64 3))),(.k (.d (.i .i64 2)))] 0 true,none,35468⟩,
⟨some 144,.call 189 [(.k (.d (.i .i64 4))),(.k (.d (.i .i64 2)))] 0 true,none,166540⟩,
⟨some 145,.bsa 8 2 [(.i .i64 0),(.i .i64 0),(.i .i64 0),(.s []),(.l 4 []),(.i .i64 0),(.i .i64 0),(.l 8 [])] [(0,.t 143),(1,.t 144)],none,428684⟩,
⟨some 146,.build [(.d (.i .i64 0)),(.d (.i .i64 0)),(.d (.i .i64 0)),(.d (.s [])),(.nil 4),(.d (.i .i64 0)),(.d (.i .i64 0)),(.nil 8)] [(0,1,(.k (.d (.i .i64 4)))),(7,1,.t 145)],none,952972⟩,
⟨some 147,.build [(.d (.i .i64 0)),(.d (.i .i64 0)),(.d (.i .i64 0)),(.d (.i .i64 0)),(.d (.i .i64 0)),(.d (.s [])),(.nil 4),(.d (.i .i64 0)),(.d (.i .i64 0)),(.nil 8)] [(0,1,(.k (.d (.i .i64 0)))),(1,1,(.k (.d (.i .i64 2)))),(2,8,.t 146)],none,2001548⟩,
⟨some 148,.bsa 10 4 [(.i .i64 0),(.i .i64 0),(.i .i64 0),(.i .i64 0),(.i .i64 0),(.s []),(.l 4 []),(.i .i64 0),(.i .i64 0),(.l 8 [])] [(0,.t 134),(1,.t 140),(2,.t 142),(3,.t 147)],none,4194188⟩,
⟨some 149,.build [(.d (.i .i64 0)),(.nil 2),(.nil 10)] [(0,1,(.k (.d (.i .i64 3)))),(1,1,.t 132),(2,1,.t 148)],none,8388604⟩,
⟨some 150,.bsa 3 1 [(.i .i64 0),(.l 2 []),(.l 10 [])] [(0,.t 149)],none,16777212⟩,
⟨some 151,.apa 3 56 (.t 127) (.t 150),none,33554431⟩,
⟨some 152,.fa 2 (.t 3),none,67108863⟩,
⟨none,.st 1 (.t 152) (.t 151),none,134217727⟩]) (.seq (.region false [
oo 154 (.bin .eql (.t 123) (.k (.d (.i .i64 2)))),
oo 153 (.mv (.t 154))]) (
.cond (.t 153) (
.region false [
oo 155 (.fa 2 (.t 3)),
oo 156 (.ld false 1 (.t 155)),
oo 157 (.ia 3 (.t 156) (.k (.d (.i .i64 2)))),
oo 158 (.fa 2 (.t 157)),
oo 159 (.ld false 1 (.t 158)),
oo 160 (.ia 10 (.t 159) (.k (.d (.i .i64 2)))),
oo 161 (.fa 2 (.t 160)),
oo 162 (.fa 0 (.t 161)),
⟨none,.st 1 (.t 162) (.k (.d (.i .i64 6))),none,0⟩]) (.seq (.region false [
oo 164 (.bin .eql (.t 123) (.k (.d (.i .i64 3)))),
oo 163 (.mv (.t 164))]) (
.cond (.t 163) (
.region false [
oo 165 (.fa 2 (.t 3)),
oo 166 (.ld false 1 (.t 165)),
oo 167 (.ia 3 (.t 166) (.k (.d (.i .i64 0)))),
oo 168 (.fa 2 (.t 167)),
oo 169 (.ld false 1 (.t 168)),
oo 170 (.build [(.d (.i .i64 0)),(.d (.i .i64 0)),(.d (.i .i64 0)),(.d (.s [])),(.nil 4),(.d (.i .i64 0)),(.d (.i .i64 0)),(.nil 8)] [(0,1,(.k (.d (.i .i64 22))))]),
oo 171 (.ia 10 (.t 169) (.k (.d (.i .i64 0)))),
oo 172 (.fa 2 (.t 171)),
⟨none,.st 8 (.t 172) (.t 170),none,0⟩]) (.skip))))))))) (
.seq (.region false [
oo 173 (.ld true 3 (.t 3)),
⟨none,.st 3 (.t 2) (.t 173),none,0⟩]) (
.ret))))))),[.cell 2 true 3]⟩
def Zpj:Notes:={ anns:=[],frz:=[0,0,0,0,0,0,0,0,0,1,0,0,0,0,0,0,0,0,1,0,1,1,0,1,1,0,1,1,0,1,0,0,0,1,0,0,0,0,0,1,0,0,0,0,0,0,0,1,0,0,1,0,0,0,1,0,0,0,0,0,0,0,0,1,0,0,0,0,1,0,0,0,0,0,0,1,0,0,0,0,1,0,0,0,1,0,0,1,0,0,0,0,0,1,0,0,1,0,0,1,0,0,0,1,0,0,1,0,0,0,0,1,0,0,0,0,0,0,0,1,0,1,0,0,0,0,0,0,0,0,0,0,0,0,1,0,0,0,0,0,1,0,0,0,0,0,0,1,0,0,1,0,1,1],rgs:=[] }
def Zno:CFn:=⟨.seq (.region false [
oo 0 (.mv (.k (.d (.b false))))]) (
.seq (.region false [
oo 2 (.call 170 [(.k (.d (.i .i64 0)))] 0 true),
oo 3 (.call 172 [.t 2,(.k (.d (.i .i64 1)))] 0 true),
oo 1 (.mv (.t 3))]) (
.seq (.region false [
oo 4 (.mv (.t 1)),
oo 5 (.len 0 (.t 4)),
oo 6 (.bin .eql (.t 5) (.k (.d (.i .i64 4)))),
oo 7 (.mv (.t 6)),
⟨some 8,.mv (.t 1),(some (7,true)),0⟩,
⟨some 9,.ia 4 (.t 8) (.k (.d (.i .i64 0))),(some (7,true)),0⟩,
⟨some 10,.ld true 4 (.t 9),(some (7,true)),0⟩,
⟨some 11,.build [(.d (.i .i64 0)),(.d (.i .i64 0))] [(0,1,(.k (.d (.i .i64 1)))),(1,1,(.k (.d (.i .i64 0))))],(some (7,true)),0⟩,
⟨some 12,.build [(.d (.i .i64 0)),(.d (.i .i64 0)),(.d (.i .i64 0)),(.d (.i .i64 0))] [(2,2,.t 11)],(some (7,true)),0⟩,
⟨some 13,.eqa [.i,.i,.i,.i] false (.t 10) (.t 12),(some (7,true)),0⟩,
oo 14 (.pick (.t 7) (.t 13) (.k (.d (.b false)))),
oo 15 (.mv (.t 14)),
⟨some 16,.mv (.t 1),(some (15,true)),0⟩,
⟨some 17,.ia 4 (.t 16) (.k (.d (.i .i64 2))),(some (15,true)),0⟩,
⟨some 18,.ld true 4 (.t 17),(some (15,true)),0⟩,
⟨some 19,.build [(.d (.i .i64 0)),(.d (.i .i64 0))] [(0,1,(.k (.d (.i .i64 1)))),(1,1,(.k (.d (.i .i64 1))))],(some (15,true)),0⟩,
⟨some 20,.build [(.d (.i .i64 0)),(.d (.i .i64 0))] [(0,1,(.k (.d (.i .i64 2)))),(1,1,(.k (.d (.i .i64 1))))],(some (15,true)),0⟩,
⟨some 21,.build [(.d (.i .i64 0)),(.d (.i .i64 0)),(.d (.i .i64 0)),(.d (.i .i64 0))] [(0,2,.t 19),(2,2,.t 20)],(some (15,true)),0⟩,
⟨some 22,.eqa [.i,.i,.i,.i] false (.t 18) (.t 21),(some (15,true)),0⟩,
oo 23 (.pick (.t 15) (.t 22) (.k (.d (.b false)))),
oo 24 (.mv (.t 23)),
⟨some 25,.call 170 [(.k (.d (.i .i64 0)))] 0 true,(some (24,true)),0⟩,
⟨some 26,.call 172 [.t 25,(.k (.d (.i .i64 9)))] 0 true,(some (24,true)),0⟩,
⟨some 27,.len 0 (.t 26),(some (24,true)),0⟩,
⟨some 28,.bin .eql (.t 27) (.k (.d (.i .i64 0))),(some (24,true)),0⟩,
oo 29 (.pick (.t 24) (.t 28) (.k (.d (.b false)))),
oo 0 (.mv (.t 29))]) (
.ret))),[.slot 0]⟩
def Zpk:Notes:={ anns:=[],frz:=[],rgs:=[] }
def zxw:CFn:=⟨.seq (.region false [
oo 2 (.box (.t 0)),
oo 4 (.mv (.k (.nil 4)))]) (
.seq (.seq (.region false [
oo 9 (.ld true 3 (.t 2)),
oo 10 (.lend 169 [.t 9]),
oo 11 (.un .not (.t 10)),
oo 12 (.mv (.t 11)),
⟨some 13,.mv (.t 1),(some (12,false)),0⟩,
⟨some 14,.bin .lss (.t 13) (.k (.d (.i .i64 0))),(some (12,false)),0⟩,
oo 15 (.pick (.t 12) (.k (.d (.b true))) (.t 14)),
oo 16 (.mv (.t 15)),
⟨some 17,.mv (.t 1),(some (16,false)),0⟩,
⟨some 18,.fa 2 (.t 2),(some (16,false)),0⟩,
⟨some 19,.ld false 1 (.t 18),(some (16,false)),0⟩,
⟨some 20,.len 0 (.t 19),(some (16,false)),0⟩,
⟨some 21,.bin .geq (.t 17) (.t 20),(some (16,false)),0⟩,
oo 22 (.pick (.t 16) (.k (.d (.b true))) (.t 21))]) (
.cond (.t 22) (
.seq (.region false [
oo 4 (.mv (.k (.nil 4)))]) (
.ret)) (.skip))) (
.seq (.seq (.region false [
oo 23 (.fa 2 (.t 2)),
oo 24 (.ld false 1 (.t 23)),
oo 25 (.mv (.t 1)),
oo 26 (.ia 3 (.t 24) (.t 25)),
oo 27 (.fa 2 (.t 26)),
oo 28 (.ld false 1 (.t 27)),
oo 29 (.len 0 (.t 28)),
oo 30 (.mv (.k (.d (.i .i64 0))))]) (
.block 0 (.loop ⟨[4,28,29,30],[4],[],[],[],true⟩ (.seq (.region false [
oo 31 (.bin .lss (.t 30) (.t 29))]) (
.seq (.cond (.t 31) (
.skip) (.exit 0)) (
.seq (.block 1 (.seq (.region false [
oo 32 (.ia 10 (.t 28) (.t 30)),
oo 33 (.ld true 10 (.t 32)),
oo 6 (.zero (.agg [(.d (.i .i64 0)),(.d (.i .i64 0)),(.d (.i .i64 0)),(.d (.i .i64 0)),(.d (.i .i64 0)),(.d (.s [])),(.nil 4),(.d (.i .i64 0)),(.d (.i .i64 0)),(.nil 8)])),
⟨none,.st 10 (.t 6) (.t 33),none,0⟩]) (
.seq (.region false [
oo 34 (.fa 2 (.t 6)),
oo 35 (.ld true 8 (.t 34)),
oo 36 (.call 192 [.t 35] 0 true),
oo 37 (.call 191 [.t 36] 0 true),
oo 38 (.len 0 (.t 37)),
oo 39 (.mv (.k (.d (.i .i64 0))))]) (
.block 2 (.loop ⟨[4,6,28,29,30,37,38,39],[4],[],[],[],true⟩ (.seq (.region false [
oo 40 (.bin .lss (.t 39) (.t 38))]) (
.seq (.cond (.t 40) (
.skip) (.exit 2)) (
.seq (.block 3 (.seq (.region false [
oo 41 (.ia 2 (.t 37) (.t 39)),
oo 42 (.ld true 2 (.t 41)),
oo 8 (.zero (.agg [(.d (.i .i64 0)),(.d (.i .i64 0))])),
⟨none,.st 2 (.t 8) (.t 42),none,0⟩]) (
.region false [
oo 43 (.mv (.t 4)),
oo 44 (.ld true 2 (.t 8)),
oo 45 (.fa 0 (.t 6)),
oo 46 (.ld false 1 (.t 45)),
oo 47 (.fa 1 (.t 6)),
oo 48 (.ld false 1 (.t 47)),
oo 49 (.build [(.d (.i .i64 0)),(.d (.i .i64 0))] [(0,1,.t 46),(1,1,.t 48)]),
oo 50 (.build [(.d (.i .i64 0)),(.d (.i .i64 0)),(.d (.i .i64 0)),(.d (.i .i64 0))] [(0,2,.t 44),(2,2,.t 49)]),
oo 51 (.bsl 4 1 [(.i .i64 0),(.i .i64 0),(.i .i64 0),(.i .i64 0)] [(0,.t 50)]),
oo 52 (.app 4 32 (.t 43) (.t 51)),
oo 4 (.mv (.t 52))]))) (
.region false [
oo 53 (.bin .add (.t 39) (.k (.d (.i .i64 1)))),
oo 39 (.mv (.t 53))]))))))))) (
.region false [
oo 54 (.bin .add (.t 30) (.k (.d (.i .i64 1)))),
oo 30 (.mv (.t 54))]))))))) (
.seq (.region false [
oo 55 (.mv (.t 4)),
oo 4 (.mv (.t 55))]) (
.ret)))),[.slot 4]⟩
def Zpl:Notes:={ anns:=[⟨[4,28,29,30],[4],[],[],[],true⟩,⟨[4,6,28,29,30,37,38,39],[4],[],[],[],true⟩],frz:=[0,0,0,1],rgs:=[] }
def Za2:CFn:=⟨.seq (.region false [
oo 2 (.box (.t 0)),
oo 4 (.mv (.k (.d (.i .i64 0))))]) (
.seq (.seq (.region false [
oo 5 (.mv (.t 1)),
oo 6 (.bin .lss (.t 5) (.k (.d (.i .i64 0)))),
oo 7 (.mv (.t 6)),
⟨some 8,.mv (.t 1),(some (7,false)),0⟩,
⟨some 9,.fa 1 (.t 2),(some (7,false)),0⟩,
⟨some 10,.ld false 1 (.t 9),(some (7,false)),0⟩,
⟨some 11,.len 0 (.t 10),(some (7,false)),0⟩,
⟨some 12,.bin .geq (.t 8) (.t 11),(some (7,false)),0⟩,
oo 13 (.pick (.t 7) (.k (.d (.b true))) (.t 12))]) (
.cond (.t 13) (
.seq (.region false [
oo 4 (.mv (.k (.d (.i .i64 0))))]) (
.ret)) (.skip))) (
.seq (.region true [
oo 14 (.fa 1 (.t 2)),
⟨some 15,.ld false 1 (.t 14),none,1⟩,
oo 16 (.mv (.t 1)),
⟨some 17,.ia 3 (.t 15) (.t 16),none,7⟩,
⟨some 18,.fa 1 (.t 17),none,15⟩,
⟨some 19,.ld false 1 (.t 18),none,31⟩,
⟨some 20,.len 0 (.t 19),none,63⟩,
oo 21 (.fa 1 (.t 2)),
⟨some 22,.ld false 1 (.t 21),none,128⟩,
oo 23 (.mv (.t 1)),
⟨some 24,.ia 3 (.t 22) (.t 23),none,896⟩,
⟨some 25,.fa 2 (.t 24),none,1920⟩,
⟨some 26,.ld false 1 (.t 25),none,3968⟩,
⟨some 27,.len 0 (.t 26),none,8064⟩,
⟨some 28,.bin .add (.t 20) (.t 27),none,16383⟩,
⟨some 4,.mv (.t 28),none,32767⟩]) (
.ret))),[.slot 4]⟩
def Zpm:Notes:={ anns:=[],frz:=[],rgs:=[] }
def z9k:CFn:=⟨.seq (.region false [
oo 3 (.box (.t 0)),
oo 6 (.mv (.k (.d (.b false))))]) (
.seq (.region false [
oo 7 (.mv (.t 1)),
oo 8 (.bin .geq (.t 7) (.k (.d (.i .i64 0)))),
oo 9 (.mv (.t 8)),
⟨some 10,.mv (.t 1),(some (9,true)),0⟩,
⟨some 11,.fa 1 (.t 3),(some (9,true)),0⟩,
⟨some 12,.ld false 1 (.t 11),(some (9,true)),0⟩,
⟨some 13,.len 0 (.t 12),(some (9,true)),0⟩,
⟨some 14,.bin .lss (.t 10) (.t 13),(some (9,true)),0⟩,
oo 15 (.pick (.t 9) (.t 14) (.k (.d (.b false)))),
oo 16 (.mv (.t 15)),
⟨some 17,.mv (.t 2),(some (16,true)),0⟩,
⟨some 18,.bin .geq (.t 17) (.k (.d (.i .i64 0))),(some (16,true)),0⟩,
oo 19 (.pick (.t 16) (.t 18) (.k (.d (.b false)))),
oo 20 (.mv (.t 19)),
⟨some 21,.mv (.t 2),(some (20,true)),0⟩,
⟨some 22,.fa 1 (.t 3),(some (20,true)),0⟩,
⟨some 23,.ld false 1 (.t 22),(some (20,true)),0⟩,
⟨some 24,.mv (.t 1),(some (20,true)),0⟩,
⟨some 25,.ia 3 (.t 23) (.t 24),(some (20,true)),0⟩,
⟨some 26,.fa 1 (.t 25),(some (20,true)),0⟩,
⟨some 27,.ld false 1 (.t 26),(some (20,true)),0⟩,
⟨some 28,.len 0 (.t 27),(some (20,true)),0⟩,
⟨some 29,.bin .lss (.t 21) (.t 28),(some (20,true)),0⟩,
oo 30 (.pick (.t 20) (.t 29) (.k (.d (.b false)))),
oo 6 (.mv (.t 30))]) (
.ret)),[.slot 6]⟩
def Zpn:Notes:={ anns:=[],frz:=[],rgs:=[] }
def z43:CFn:=⟨.seq (.region false [
oo 1 (.box (.t 0)),
oo 2 (.mv (.k (.nil 2)))]) (
.seq (.seq (.region false [
oo 5 (.fa 0 (.t 1)),
oo 6 (.ld false 1 (.t 5)),
oo 7 (.bin .eql (.t 6) (.k (.d (.i .i64 1))))]) (
.cond (.t 7) (
.seq (.region false [
oo 8 (.fa 5 (.t 1)),
oo 9 (.ld false 1 (.t 8)),
oo 10 (.fa 6 (.t 1)),
oo 11 (.ld false 1 (.t 10)),
oo 12 (.build [(.d (.i .i64 0)),(.d (.i .i64 0))] [(0,1,.t 9),(1,1,.t 11)]),
oo 13 (.bsl 2 1 [(.i .i64 0),(.i .i64 0)] [(0,.t 12)]),
oo 2 (.mv (.t 13))]) (
.ret)) (.skip))) (
.seq (.region false [
oo 3 (.mv (.k (.nil 2)))]) (
.seq (.seq (.region false [
oo 4 (.mv (.k (.d (.i .i64 0))))]) (
.block 0 (.loop ⟨[1,3,4],[3],[],[],[],true⟩ (.seq (.seq (.region false [
oo 14 (.mv (.t 4)),
oo 15 (.fa 7 (.t 1)),
oo 16 (.ld false 1 (.t 15)),
oo 17 (.len 0 (.t 16)),
oo 18 (.bin .lss (.t 14) (.t 17))]) (
.cond (.t 18) (
.skip) (.exit 0))) (
.seq (.block 1 (.region false [
oo 21 (.mv (.t 3)),
oo 22 (.fa 7 (.t 1)),
oo 23 (.ld false 1 (.t 22)),
oo 24 (.mv (.t 4)),
oo 25 (.ia 8 (.t 23) (.t 24)),
oo 26 (.ld true 8 (.t 25)),
oo 27 (.call 175 [.t 26] 0 true),
oo 28 (.app 2 16 (.t 21) (.t 27)),
oo 3 (.mv (.t 28))])) (
.region false [
oo 19 (.mv (.t 4)),
oo 20 (.bin .add (.t 19) (.k (.d (.i .i64 1)))),
oo 4 (.mv (.t 20))])))))) (
.seq (.region false [
oo 29 (.mv (.t 3)),
oo 2 (.mv (.t 29))]) (
.ret))))),[.slot 2]⟩
def Zpo:Notes:={ anns:=[⟨[1,3,4],[3],[],[],[],true⟩],frz:=[],rgs:=[] }
def Zi6:CFn:=⟨.seq (.region false [
oo 2 (.box (.t 0)),
oo 4 (.mv (.k (.d (.i .i64 0))))]) (
.seq (.region true [
oo 5 (.ld true 3 (.t 2)),
oo 6 (.mv (.t 1)),
⟨some 7,.call 197 [.t 5,.t 6] 0 true,none,3⟩,
⟨some 8,.fl false 1 1 (.t 7),none,7⟩,
⟨some 9,.len 0 (.t 8),none,15⟩,
oo 10 (.ld true 3 (.t 2)),
oo 11 (.mv (.t 1)),
⟨some 12,.call 197 [.t 10,.t 11] 0 true,none,103⟩,
⟨some 13,.fl false 2 1 (.t 12),none,231⟩,
⟨some 14,.len 0 (.t 13),none,487⟩,
⟨some 15,.bin .add (.t 9) (.t 14),none,1023⟩,
⟨some 4,.mv (.t 15),none,2047⟩]) (
.ret)),[.slot 4]⟩
def Zpp:Notes:={ anns:=[],frz:=[],rgs:=[] }
def Zdx:CFn:=⟨.seq (.region false [
oo 3 (.box (.t 0)),
oo 6 (.mv (.k (.d (.b false))))]) (
.seq (.region false [
oo 7 (.mv (.t 2)),
oo 8 (.bin .geq (.t 7) (.k (.d (.i .i64 0)))),
oo 9 (.mv (.t 8)),
⟨some 10,.mv (.t 2),(some (9,true)),0⟩,
⟨some 11,.ld true 3 (.t 3),(some (9,true)),0⟩,
⟨some 12,.mv (.t 1),(some (9,true)),0⟩,
⟨some 13,.call 197 [.t 11,.t 12] 0 true,(some (9,true)),0⟩,
⟨some 14,.fl false 1 1 (.t 13),(some (9,true)),0⟩,
⟨some 15,.len 0 (.t 14),(some (9,true)),0⟩,
⟨some 16,.bin .lss (.t 10) (.t 15),(some (9,true)),0⟩,
oo 17 (.pick (.t 9) (.t 16) (.k (.d (.b false)))),
oo 6 (.mv (.t 17))]) (
.ret)),[.slot 6]⟩
def Zpq:Notes:={ anns:=[],frz:=[],rgs:=[] }
def zrd:CFn:=⟨.seq (.region false [
oo 4 (.box (.t 1)),
oo 5 (.box (.t 2)),
oo 6 (.mv (.k (.nil 10)))]) (
.seq (.region false [
oo 7 (.mv (.k (.nil 10)))]) (
.seq (.region false [
oo 8 (.mv (.k (.nil 8)))]) (
.seq (.seq (.region false [
oo 9 (.mv (.k (.d (.i .i64 0))))]) (
.block 0 (.loop ⟨[0,4,5,7,8,9],[8],[(7,0)],[],[],true⟩ (.seq (.seq (.region false [
oo 15 (.mv (.t 9)),
oo 16 (.fa 1 (.t 5)),
oo 17 (.ld false 1 (.t 16)),
oo 18 (.len 0 (.t 17)),
oo 19 (.bin .leq (.t 15) (.t 18))]) (
.cond (.t 19) (
.skip) (.exit 0))) (
.seq (.block 1 (.seq (.region false [
oo 22 (.fa 0 (.t 5)),
oo 23 (.ld false 1 (.t 22)),
oo 10 (.mv (.t 23))]) (
.seq (.seq (.region false [
oo 24 (.mv (.t 9)),
oo 25 (.bin .gtr (.t 24) (.k (.d (.i .i64 0))))]) (
.cond (.t 25) (
.seq (.region false [
oo 26 (.fa 1 (.t 5)),
oo 27 (.ld false 1 (.t 26)),
oo 28 (.mv (.t 9)),
oo 29 (.bin .sub (.t 28) (.k (.d (.i .i64 1)))),
oo 30 (.ia 2 (.t 27) (.t 29)),
oo 31 (.fa 1 (.t 30)),
oo 32 (.ld false 1 (.t 31)),
oo 10 (.mv (.t 32))]) (
.seq (.region false [
oo 33 (.fa 1 (.t 5)),
oo 34 (.ld false 1 (.t 33)),
oo 35 (.mv (.t 9)),
oo 36 (.bin .sub (.t 35) (.k (.d (.i .i64 1)))),
oo 37 (.ia 2 (.t 34) (.t 36)),
oo 38 (.fa 0 (.t 37)),
oo 39 (.ld false 1 (.t 38))]) (
.cond (.t 39) (
.seq (.region false [
oo 40 (.mv (.t 8)),
oo 41 (.mv (.t 9)),
oo 42 (.build [(.d (.i .i64 0)),(.d (.i .i64 0)),(.d (.i .i64 0)),(.d (.s [])),(.nil 4),(.d (.i .i64 0)),(.d (.i .i64 0)),(.nil 8)] [(0,1,(.k (.d (.i .i64 2)))),(5,1,.t 41)]),
oo 43 (.bsl 8 1 [(.i .i64 0),(.i .i64 0),(.i .i64 0),(.s []),(.l 4 []),(.i .i64 0),(.i .i64 0),(.l 8 [])] [(0,.t 42)]),
oo 44 (.app 8 104 (.t 40) (.t 43)),
oo 8 (.mv (.t 44))]) (
.exit 1)) (.skip)))) (.skip))) (
.seq (.region false [
oo 11 (.mv (.k (.d (.i .i64 0))))]) (
.block 2 (.loop ⟨[0,4,5,7,8,9,10,11],[8],[(7,0)],[],[],true⟩ (.seq (.seq (.region false [
oo 45 (.mv (.t 11)),
oo 46 (.ld true 3 (.t 4)),
oo 47 (.mv (.t 10)),
oo 48 (.call 173 [.t 46,.t 47] 0 true),
oo 49 (.bin .lss (.t 45) (.t 48))]) (
.cond (.t 49) (
.skip) (.exit 2))) (
.seq (.block 3 (.seq (.region false [
oo 52 (.mv (.t 9)),
oo 53 (.bin .eql (.t 52) (.k (.d (.i .i64 0)))),
oo 54 (.ld true 3 (.t 4)),
oo 55 (.mv (.t 10)),
oo 56 (.mv (.t 11)),
oo 57 (.call 174 [.t 54,.t 55,.t 56] 0 true),
oo 58 (.eqb false (.t 53) (.t 57))]) (
.cond (.t 58) (
.region false [
oo 59 (.mv (.t 8)),
oo 60 (.mv (.t 9)),
oo 61 (.mv (.t 11)),
oo 62 (.call 189 [.t 60,.t 61] 0 true),
oo 63 (.bsl 8 1 [(.i .i64 0),(.i .i64 0),(.i .i64 0),(.s []),(.l 4 []),(.i .i64 0),(.i .i64 0),(.l 8 [])] [(0,.t 62)]),
oo 64 (.app 8 104 (.t 59) (.t 63)),
oo 8 (.mv (.t 64))]) (.region false [
oo 65 (.mv (.t 7)),
oo 66 (.mv (.t 9)),
oo 67 (.mv (.t 11)),
oo 68 (.build [(.d (.i .i64 0)),(.d (.i .i64 0)),(.d (.i .i64 0)),(.d (.i .i64 0)),(.d (.i .i64 0)),(.d (.s [])),(.nil 4),(.d (.i .i64 0)),(.d (.i .i64 0)),(.nil 8)] [(0,1,.t 66),(1,1,.t 67)]),
oo 69 (.bsa 10 1 [(.i .i64 0),(.i .i64 0),(.i .i64 0),(.i .i64 0),(.i .i64 0),(.s []),(.l 4 []),(.i .i64 0),(.i .i64 0),(.l 8 [])] [(0,.t 68)]),
oo 70 (.apa 10 120 (.t 65) (.t 69)),
oo 7 (.mv (.t 70))])))) (
.region false [
oo 50 (.mv (.t 11)),
oo 51 (.bin .add (.t 50) (.k (.d (.i .i64 1)))),
oo 11 (.mv (.t 51))]))))))))) (
.region false [
oo 20 (.mv (.t 9)),
oo 21 (.bin .add (.t 20) (.k (.d (.i .i64 1)))),
oo 9 (.mv (.t 21))])))))) (
.seq (.seq (.region false [
oo 12 (.mv (.k (.d (.i .i64 0))))]) (
.block 4 (.loop ⟨[0,7,8,12],[],[],[],[],true⟩ (.seq (.seq (.region false [
oo 71 (.mv (.t 12)),
oo 72 (.mv (.t 7)),
oo 73 (.len 0 (.t 72)),
oo 74 (.bin .lss (.t 71) (.t 73))]) (
.cond (.t 74) (
.skip) (.exit 4))) (
.seq (.block 5 (.seq (.region false [
oo 77 (.mv (.t 0)),
oo 78 (.call 123 [.t 77,(.k (.d (.i .i64 5)))] 4 true),
oo 79 (.build [(.d (.i .i64 0)),(.d (.i .i64 0)),(.d (.s [])),(.nil 4)] [(0,1,(.k (.d (.i .i64 1)))),(1,1,.t 78)]),
oo 80 (.call 188 [.t 79] 0 true),
oo 13 (.zero (.agg [(.d (.i .i64 0)),(.d (.i .i64 0)),(.d (.i .i64 0)),(.d (.s [])),(.nil 4),(.d (.i .i64 0)),(.d (.i .i64 0)),(.nil 8)])),
⟨none,.st 8 (.t 13) (.t 80),none,0⟩]) (
.seq (.seq (.region false [
oo 81 (.mv (.t 0)),
oo 82 (.call 123 [.t 81,(.k (.d (.i .i64 3)))] 4 true),
oo 14 (.mv (.t 82))]) (
.block 6 (.loop ⟨[0,7,8,12,13,14],[],[],[],[(13,4),(13,7)],true⟩ (.seq (.seq (.region false [
oo 83 (.mv (.t 14)),
oo 84 (.bin .gtr (.t 83) (.k (.d (.i .i64 0)))),
oo 85 (.mv (.t 84)),
⟨some 86,.mv (.t 8),(some (85,true)),0⟩,
⟨some 87,.len 0 (.t 86),(some (85,true)),0⟩,
⟨some 88,.bin .gtr (.t 87) (.k (.d (.i .i64 0))),(some (85,true)),0⟩,
oo 89 (.pick (.t 85) (.t 88) (.k (.d (.b false))))]) (
.cond (.t 89) (
.skip) (.exit 6))) (
.seq (.block 7 (.region true [
oo 92 (.bsl 1 4 [(.i .i64 0)] [(0,(.k (.d (.i .i64 4)))),(1,(.k (.d (.i .i64 7)))),(2,(.k (.d (.i .i64 13)))),(3,(.k (.d (.i .i64 14))))]),
oo 93 (.mv (.t 0)),
⟨some 94,.call 123 [.t 93,(.k (.d (.i .i64 4)))] 4 true,none,2⟩,
⟨some 95,.ia 1 (.t 92) (.t 94),none,7⟩,
⟨some 96,.ld false 1 (.t 95),none,15⟩,
oo 97 (.ld true 8 (.t 13)),
oo 98 (.mv (.t 8)),
oo 99 (.mv (.t 0)),
oo 100 (.mv (.t 8)),
⟨some 101,.len 0 (.t 100),none,256⟩,
⟨some 102,.call 123 [.t 99,.t 101] 4 true,none,902⟩,
⟨some 103,.ia 8 (.t 98) (.t 102),none,1990⟩,
⟨some 104,.ld true 8 (.t 103),none,4038⟩,
⟨some 105,.bsl 8 2 [(.i .i64 0),(.i .i64 0),(.i .i64 0),(.s []),(.l 4 []),(.i .i64 0),(.i .i64 0),(.l 8 [])] [(0,.t 97),(1,.t 104)],none,8166⟩,
⟨some 106,.build [(.d (.i .i64 0)),(.d (.i .i64 0)),(.d (.i .i64 0)),(.d (.s [])),(.nil 4),(.d (.i .i64 0)),(.d (.i .i64 0)),(.nil 8)] [(0,1,.t 96),(7,1,.t 105)],none,16383⟩,
⟨none,.st 8 (.t 13) (.t 106),none,32767⟩])) (
.region false [
oo 90 (.mv (.t 14)),
oo 91 (.bin .sub (.t 90) (.k (.d (.i .i64 1)))),
oo 14 (.mv (.t 91))])))))) (
.region false [
oo 107 (.mv (.t 7)),
oo 108 (.mv (.t 12)),
oo 109 (.ld true 8 (.t 13)),
oo 110 (.ia 10 (.t 107) (.t 108)),
oo 111 (.fa 2 (.t 110)),
⟨none,.st 8 (.t 111) (.t 109),none,0⟩])))) (
.region false [
oo 75 (.mv (.t 12)),
oo 76 (.bin .add (.t 75) (.k (.d (.i .i64 1)))),
oo 12 (.mv (.t 76))])))))) (
.seq (.region false [
oo 112 (.mv (.t 7)),
oo 6 (.mv (.t 112))]) (
.ret)))))),[.slot 6]⟩
def Zpr:Notes:={ anns:=[⟨[0,4,5,7,8,9],[8],[(7,0)],[],[],true⟩,⟨[0,4,5,7,8,9,10,11],[8],[(7,0)],[],[],true⟩,⟨[0,7,8,12],[],[],[],[],true⟩,⟨[0,7,8,12,13,14],[],[],[],[(13,4),(13,7)],true⟩],frz:=[0,0,0,0,0,0,0,0,0,0,0,0,0,0,0,0,0,0,0,0,0,0,0,0,0,0,0,0,0,0,0,0,0,0,0,0,0,0,0,0,0,0,0,0,0,0,0,0,0,0,0,0,0,0,0,0,0,0,0,0,0,1,1],rgs:=[] }
def zuf:CFn:=⟨.seq (.region false [
oo 1 (.box (.t 0)),
oo 2 (.mv (.k (.d (.b false))))]) (
.seq (.seq (.region false [
oo 9 (.fa 0 (.t 1)),
oo 10 (.ld false 1 (.t 9)),
oo 11 (.call 198 [.t 10,(.k (.d (.i .i64 8)))] 0 true),
oo 12 (.un .not (.t 11)),
oo 13 (.mv (.t 12)),
⟨some 14,.fa 1 (.t 1),(some (13,false)),0⟩,
⟨some 15,.ld false 1 (.t 14),(some (13,false)),0⟩,
⟨some 16,.call 199 [.t 15,(.k (.d (.i .i64 8)))] 0 true,(some (13,false)),0⟩,
⟨some 17,.un .not (.t 16),(some (13,false)),0⟩,
oo 18 (.pick (.t 13) (.k (.d (.b true))) (.t 17)),
oo 19 (.mv (.t 18)),
⟨some 20,.fa 2 (.t 1),(some (19,false)),0⟩,
⟨some 21,.ld false 1 (.t 20),(some (19,false)),0⟩,
⟨some 22,.call 200 [.t 21,(.k (.d (.i .i64 16)))] 0 true,(some (19,false)),0⟩,
⟨some 23,.un .not (.t 22),(some (19,false)),0⟩,
oo 24 (.pick (.t 19) (.k (.d (.b true))) (.t 23))]) (
.cond (.t 24) (
.seq (.region false [
oo 2 (.mv (.k (.d (.b false))))]) (
.ret)) (.skip))) (
.seq (.region false [
oo 3 (.mv (.k (.nil 1)))]) (
.seq (.seq (.region false [
oo 25 (.fa 0 (.t 1)),
oo 26 (.ld false 1 (.t 25)),
oo 27 (.len 0 (.t 26)),
oo 28 (.mv (.k (.d (.i .i64 0))))]) (
.block 0 (.loop ⟨[1,3,26,27,28],[3],[],[],[],true⟩ (.seq (.region false [
oo 29 (.bin .lss (.t 28) (.t 27))]) (
.seq (.cond (.t 29) (
.skip) (.exit 0)) (
.seq (.block 1 (.seq (.region false [
oo 30 (.ia 3 (.t 26) (.t 28)),
oo 31 (.ld true 3 (.t 30)),
oo 5 (.zero (.agg [(.d (.s [])),(.d (.s [])),(.d (.b false))])),
⟨none,.st 3 (.t 5) (.t 31),none,0⟩]) (
.region false [
oo 32 (.mv (.t 3)),
oo 33 (.fa 0 (.t 5)),
oo 34 (.ld false 1 (.t 33)),
oo 35 (.bsl 1 1 [(.s [])] [(0,.t 34)]),
oo 36 (.app 1 16 (.t 32) (.t 35)),
oo 3 (.mv (.t 36))]))) (
.region false [
oo 37 (.bin .add (.t 28) (.k (.d (.i .i64 1)))),
oo 28 (.mv (.t 37))]))))))) (
.seq (.seq (.region false [
oo 38 (.fa 1 (.t 1)),
oo 39 (.ld false 1 (.t 38)),
oo 40 (.len 0 (.t 39)),
oo 41 (.mv (.k (.d (.i .i64 0))))]) (
.block 2 (.loop ⟨[1,3,39,40,41],[3],[],[],[],true⟩ (.seq (.region false [
oo 42 (.bin .lss (.t 41) (.t 40))]) (
.seq (.cond (.t 42) (
.skip) (.exit 2)) (
.seq (.block 3 (.seq (.region false [
oo 43 (.ia 3 (.t 39) (.t 41)),
oo 44 (.ld true 3 (.t 43)),
oo 7 (.zero (.agg [(.d (.s [])),(.nil 1),(.nil 1)])),
⟨none,.st 3 (.t 7) (.t 44),none,0⟩]) (
.seq (.region false [
oo 45 (.mv (.t 3)),
oo 46 (.fa 0 (.t 7)),
oo 47 (.ld false 1 (.t 46)),
oo 48 (.bsl 1 1 [(.s [])] [(0,.t 47)]),
oo 49 (.app 1 16 (.t 45) (.t 48)),
oo 3 (.mv (.t 49))]) (
.seq (.region false [
oo 50 (.fa 1 (.t 7)),
oo 51 (.ld false 1 (.t 50)),
oo 52 (.fa 2 (.t 7)),
oo 53 (.ld false 1 (.t 52)),
oo 54 (.bsl 1 2 [(.l 1 [])] [(0,.t 51),(1,.t 53)]),
oo 55 (.call 201 [.t 54] 0 true),
oo 8 (.mv (.t 55))]) (
.seq (.region false [
oo 56 (.mv (.t 8)),
oo 57 (.len 0 (.t 56)),
oo 58 (.bin .gtr (.t 57) (.k (.d (.i .i64 4)))),
oo 59 (.mv (.t 58)),
⟨some 60,.mv (.t 8),(some (59,false)),0⟩,
⟨some 61,.call 202 [.t 60] 0 true,(some (59,false)),0⟩,
⟨some 62,.un .not (.t 61),(some (59,false)),0⟩,
oo 63 (.pick (.t 59) (.k (.d (.b true))) (.t 62))]) (
.cond (.t 63) (
.seq (.region false [
oo 2 (.mv (.k (.d (.b false))))]) (
.ret)) (.skip))))))) (
.region false [
oo 64 (.bin .add (.t 41) (.k (.d (.i .i64 1)))),
oo 41 (.mv (.t 64))]))))))) (
.seq (.region false [
oo 65 (.mv (.t 3)),
oo 66 (.call 202 [.t 65] 0 true),
oo 67 (.mv (.t 66)),
⟨some 68,.fa 2 (.t 1),(some (67,true)),0⟩,
⟨some 69,.ld false 1 (.t 68),(some (67,true)),0⟩,
⟨some 70,.mkf 204 [] [.t 1] true,(some (67,true)),0⟩,
⟨some 71,.call 203 [.t 69,.t 70] 4 true,(some (67,true)),0⟩,
⟨some 72,.un .not (.t 71),(some (67,true)),0⟩,
oo 73 (.pick (.t 67) (.t 72) (.k (.d (.b false)))),
oo 2 (.mv (.t 73))]) (
.ret)))))),[.slot 2]⟩
def Zps:Notes:={ anns:=[⟨[1,3,26,27,28],[3],[],[],[],true⟩,⟨[1,3,39,40,41],[3],[],[],[],true⟩],frz:=[0,0,0,0,0,0,0,0,0,0,0,0,0,0,0,0,0,0,0,0,0,0,0,0,0,0,0,0,0,0,0,0,0,0,0,0,0,0,0,0,0,0,0,0,0,0,0,0,0,0,0,0,0,0,0,0,0,0,0,0,0,0,0,0,0,0,0,0,0,0,0,0,0,0,0,1],rgs:=[] }
def Zi7:CFn:=⟨.seq (.region false [
oo 3 (.box (.t 1)),
oo 4 (.mv (.k (.d (.b false))))]) (
.seq (.region false [
oo 5 (.mv (.t 0)),
oo 6 (.mkf 206 [] [.t 3] true),
oo 7 (.call 203 [.t 5,.t 6] 4 true),
oo 8 (.un .not (.t 7)),
oo 4 (.mv (.t 8))]) (
.ret)),[.slot 4]⟩
def Zpt:Notes:={ anns:=[],frz:=[0,0,0,1],rgs:=[] }
def Zi8:CFn:=⟨.seq (.region false [
oo 2 (.box (.t 0)),
oo 3 (.mv (.k (.d (.b false))))]) (
.seq (.region false [
oo 4 (.ld true 3 (.t 1)),
oo 5 (.ld true 3 (.t 2)),
oo 6 (.call 187 [.t 4,.t 5] 0 true),
oo 3 (.mv (.t 6))]) (
.ret)),[.slot 3]⟩
def Zpu:Notes:={ anns:=[],frz:=[],rgs:=[] }
def Zi9:CFn:=⟨.seq (.region false [
oo 2 (.box (.t 0)),
oo 3 (.box (.t 1)),
oo 4 (.mv (.k (.d (.b false))))]) (
.seq (.region false [
oo 7 (.ld true 3 (.t 2)),
oo 8 (.ld true 3 (.t 3)),
oo 9 (.call 207 [.t 7,.t 8] 4 true),
oo 5 (.zero (.d .nm)),
⟨none,.st 1 (.t 5) (.t 9),none,0⟩]) (
.seq (.region false [
oo 10 (.fa 2 (.t 3)),
oo 11 (.ld false 1 (.t 10)),
oo 12 (.mkf 209 [] [.t 5,.t 3,.t 2] true),
oo 13 (.call 208 [.t 11,.t 12] 4 true),
oo 6 (.mv (.t 13))]) (
.seq (.region false [
oo 14 (.mv (.t 6)),
oo 15 (.mv (.t 14)),
⟨some 16,.ld false 1 (.t 5),(some (15,true)),0⟩,
⟨some 17,.len 2 (.t 16),(some (15,true)),0⟩,
⟨some 18,.bin .eql (.t 17) (.k (.d (.i .i64 0))),(some (15,true)),0⟩,
oo 19 (.pick (.t 15) (.t 18) (.k (.d (.b false)))),
oo 4 (.mv (.t 19))]) (
.ret)))),[.slot 4]⟩
def Zpv:Notes:={ anns:=[],frz:=[0,0,0,0,0,0,0,0,0,0,1],rgs:=[] }
def Zdy:CFn:=⟨.seq (.region false [
oo 1 (.box (.t 0)),
oo 2 (.zero (.agg [(.d (.i .i64 0)),(.d (.i .i64 0)),(.d (.i .i64 0)),(.d (.s [])),(.nil 4),(.d (.i .i64 0)),(.d (.i .i64 0)),(.nil 8)]))]) (
.seq (.region false [
oo 3 (.ld true 4 (.t 1)),
oo 4 (.build [(.d (.i .i64 0)),(.d (.i .i64 0)),(.d (.i .i64 0)),(.d (.s [])),(.nil 4),(.d (.i .i64 0)),(.d (.i .i64 0)),(.nil 8)] [(0,1,(.k (.d (.i .i64 0)))),(1,4,.t 3)]),
⟨none,.st 8 (.t 2) (.t 4),none,0⟩]) (
.ret)),[.cell 2 true 8]⟩
def Zpw:Notes:={ anns:=[],frz:=[],rgs:=[] }
def Zja:CFn:=⟨.seq (.region false [
oo 4 (.zero (.agg [(.d (.i .i64 0)),(.d (.i .i64 0)),(.d (.i .i64 0)),(.d (.s [])),(.nil 4),(.d (.i .i64 0)),(.d (.i .i64 0)),(.nil 8)]))]) (
.seq (.region false [
oo 5 (.mv (.t 0)),
oo 6 (.mv (.t 1)),
oo 7 (.build [(.d (.i .i64 0)),(.d (.i .i64 0)),(.d (.i .i64 0)),(.d (.s [])),(.nil 4),(.d (.i .i64 0)),(.d (.i .i64 0)),(.nil 8)] [(0,1,(.k (.d (.i .i64 1)))),(5,1,.t 5),(6,1,.t 6)]),
⟨none,.st 8 (.t 4) (.t 7),none,0⟩]) (
.ret)),[.cell 4 true 8]⟩
def Zpx:Notes:={ anns:=[],frz:=[],rgs:=[] }
def Znp:CFn:=⟨.seq (.region false [
oo 2 (.zero (.agg [(.d (.b false)),(.d (.i .i64 0))]))]) (
.seq (.region false [
oo 3 (.mv (.t 0)),
oo 4 (.build [(.d (.b false)),(.d (.i .i64 0))] [(0,1,(.k (.d (.b true)))),(1,1,.t 3)]),
⟨none,.st 2 (.t 2) (.t 4),none,0⟩]) (
.ret)),[.cell 2 true 2]⟩
def Zpy:Notes:={ anns:=[],frz:=[],rgs:=[] }
def z67:CFn:=⟨.seq (.region false [
oo 2 (.mv (.k (.nil 2)))]) (
.seq (.region false [
oo 6 (.mkm),
oo 3 (.mv (.t 6))]) (
.seq (.seq (.region false [
oo 7 (.mv (.t 0)),
oo 8 (.len 0 (.t 7)),
oo 9 (.mv (.k (.d (.i .i64 0))))]) (
.block 0 (.loop ⟨[2,3,7,8,9],[2],[],[],[],true⟩ (.seq (.region false [
oo 10 (.bin .lss (.t 9) (.t 8))]) (
.seq (.cond (.t 10) (
.skip) (.exit 0)) (
.seq (.block 1 (.seq (.region false [
oo 11 (.ia 2 (.t 7) (.t 9)),
oo 12 (.ld true 2 (.t 11)),
oo 5 (.zero (.agg [(.d (.i .i64 0)),(.d (.i .i64 0))])),
⟨none,.st 2 (.t 5) (.t 12),none,0⟩]) (
.seq (.seq (.region false [
oo 13 (.mv (.t 3)),
oo 14 (.ld true 2 (.t 5)),
oo 15 (.lk true [.i,.i] false (.d (.b false)) (.t 13) (.t 14)),
oo 16 (.un .not (.t 15))]) (
.cond (.t 16) (
.region false [
oo 17 (.mv (.t 2)),
oo 18 (.ld true 2 (.t 5)),
oo 19 (.bsl 2 1 [(.i .i64 0),(.i .i64 0)] [(0,.t 18)]),
oo 20 (.app 2 16 (.t 17) (.t 19)),
oo 2 (.mv (.t 20))]) (.skip))) (
.region false [
oo 21 (.mv (.t 3)),
oo 22 (.ld true 2 (.t 5)),
⟨none,.mu true [.i,.i] (.t 21) (.t 22) (.k (.d (.b true))),none,0⟩])))) (
.region false [
oo 23 (.bin .add (.t 9) (.k (.d (.i .i64 1)))),
oo 9 (.mv (.t 23))]))))))) (
.seq (.region false [
oo 24 (.mv (.t 2)),
oo 2 (.mv (.t 24))]) (
.ret)))),[.slot 2]⟩
def Zpz:Notes:={ anns:=[⟨[2,3,7,8,9],[2],[],[],[],true⟩],frz:=[],rgs:=[] }
def zy2:CFn:=⟨.seq (.region false [
oo 1 (.box (.t 0)),
oo 2 (.mv (.k (.nil 2)))]) (
.seq (.seq (.region false [
oo 5 (.fa 0 (.t 1)),
oo 6 (.ld false 1 (.t 5)),
oo 7 (.bin .eql (.t 6) (.k (.d (.i .i64 1))))]) (
.cond (.t 7) (
.region false [
oo 8 (.mv (.t 2)),
oo 9 (.fa 5 (.t 1)),
oo 10 (.ld false 1 (.t 9)),
oo 11 (.fa 6 (.t 1)),
oo 12 (.ld false 1 (.t 11)),
oo 13 (.build [(.d (.i .i64 0)),(.d (.i .i64 0))] [(0,1,.t 10),(1,1,.t 12)]),
oo 14 (.bsl 2 1 [(.i .i64 0),(.i .i64 0)] [(0,.t 13)]),
oo 15 (.app 2 16 (.t 8) (.t 14)),
oo 2 (.mv (.t 15))]) (.skip))) (
.seq (.seq (.region false [
oo 16 (.fa 7 (.t 1)),
oo 17 (.ld false 1 (.t 16)),
oo 18 (.len 0 (.t 17)),
oo 19 (.mv (.k (.d (.i .i64 0))))]) (
.block 0 (.loop ⟨[2,17,18,19],[2],[],[],[],true⟩ (.seq (.region false [
oo 20 (.bin .lss (.t 19) (.t 18))]) (
.seq (.cond (.t 20) (
.skip) (.exit 0)) (
.seq (.block 1 (.seq (.region false [
oo 21 (.ia 8 (.t 17) (.t 19)),
oo 22 (.ld true 8 (.t 21)),
oo 4 (.zero (.agg [(.d (.i .i64 0)),(.d (.i .i64 0)),(.d (.i .i64 0)),(.d (.s [])),(.nil 4),(.d (.i .i64 0)),(.d (.i .i64 0)),(.nil 8)])),
⟨none,.st 8 (.t 4) (.t 22),none,0⟩]) (
.region false [
oo 23 (.mv (.t 2)),
oo 24 (.ld true 8 (.t 4)),
oo 25 (.call 192 [.t 24] 0 true),
oo 26 (.app 2 16 (.t 23) (.t 25)),
oo 2 (.mv (.t 26))]))) (
.region false [
oo 27 (.bin .add (.t 19) (.k (.d (.i .i64 1)))),
oo 19 (.mv (.t 27))]))))))) (
.seq (.region false [
oo 28 (.mv (.t 2)),
oo 2 (.mv (.t 28))]) (
.ret)))),[.slot 2]⟩
def Zp0:Notes:={ anns:=[⟨[2,17,18,19],[2],[],[],[],true⟩],frz:=[],rgs:=[] }
def Za3:CFn:=⟨.seq (.region false [
oo 2 (.box (.t 0)),
oo 4 (.zero (.agg [(.d (.s [])),(.nil 1),(.nil 1)]))]) (
.seq (.seq (.region false [
oo 5 (.mv (.t 1)),
oo 6 (.bin .geq (.t 5) (.k (.d (.i .i64 0)))),
oo 7 (.mv (.t 6)),
⟨some 8,.mv (.t 1),(some (7,true)),0⟩,
⟨some 9,.fa 1 (.t 2),(some (7,true)),0⟩,
⟨some 10,.ld false 1 (.t 9),(some (7,true)),0⟩,
⟨some 11,.len 0 (.t 10),(some (7,true)),0⟩,
⟨some 12,.bin .lss (.t 8) (.t 11),(some (7,true)),0⟩,
oo 13 (.pick (.t 7) (.t 12) (.k (.d (.b false))))]) (
.cond (.t 13) (
.region false [
oo 14 (.fa 1 (.t 2)),
oo 15 (.ld false 1 (.t 14)),
oo 16 (.mv (.t 1)),
oo 17 (.ia 3 (.t 15) (.t 16)),
oo 18 (.ld true 3 (.t 17)),
⟨none,.st 3 (.t 4) (.t 18),none,0⟩]) (.skip))) (
.seq (.region false [
oo 19 (.ld true 3 (.t 4)),
⟨none,.st 3 (.t 4) (.t 19),none,0⟩]) (
.ret))),[.cell 4 true 3]⟩
def Zp1:Notes:={ anns:=[],frz:=[],rgs:=[] }
def Zdz:CFn:=⟨.seq (.region false [
oo 4 (.mv (.k (.d (.b false))))]) (
.seq (.region false [
oo 5 (.mv (.t 0)),
oo 6 (.len 0 (.t 5)),
oo 7 (.bin .geq (.t 6) (.k (.d (.i .i64 1)))),
oo 8 (.mv (.t 7)),
⟨some 9,.mv (.t 0),(some (8,true)),0⟩,
⟨some 10,.len 0 (.t 9),(some (8,true)),0⟩,
⟨some 11,.mv (.t 1),(some (8,true)),0⟩,
⟨some 12,.bin .leq (.t 10) (.t 11),(some (8,true)),0⟩,
oo 13 (.pick (.t 8) (.t 12) (.k (.d (.b false)))),
oo 4 (.mv (.t 13))]) (
.ret)),[.slot 4]⟩
def Zp2:Notes:={ anns:=[],frz:=[],rgs:=[] }
def Zd0:CFn:=⟨.seq (.region false [
oo 4 (.mv (.k (.d (.b false))))]) (
.seq (.region false [
oo 5 (.mv (.t 0)),
oo 6 (.len 0 (.t 5)),
oo 7 (.bin .geq (.t 6) (.k (.d (.i .i64 1)))),
oo 8 (.mv (.t 7)),
⟨some 9,.mv (.t 0),(some (8,true)),0⟩,
⟨some 10,.len 0 (.t 9),(some (8,true)),0⟩,
⟨some 11,.mv (.t 1),(some (8,true)),0⟩,
⟨some 12,.bin .leq (.t 10) (.t 11),(some (8,true)),0⟩,
oo 13 (.pick (.t 8) (.t 12) (.k (.d (.b false)))),
oo 4 (.mv (.t 13))]) (
.ret)),[.slot 4]⟩
def Zp3:Notes:={ anns:=[],frz:=[],rgs:=[] }
def Zd1:CFn:=⟨.seq (.region false [
oo 4 (.mv (.k (.d (.b false))))]) (
.seq (.region false [
oo 5 (.mv (.t 0)),
oo 6 (.len 0 (.t 5)),
oo 7 (.bin .geq (.t 6) (.k (.d (.i .i64 1)))),
oo 8 (.mv (.t 7)),
⟨some 9,.mv (.t 0),(some (8,true)),0⟩,
⟨some 10,.len 0 (.t 9),(some (8,true)),0⟩,
⟨some 11,.mv (.t 1),(some (8,true)),0⟩,
⟨some 12,.bin .leq (.t 10) (.t 11),(some (8,true)),0⟩,
oo 13 (.pick (.t 8) (.t 12) (.k (.d (.b false)))),
oo 4 (.mv (.t 13))]) (
.ret)),[.slot 4]⟩
def Zp4:Notes:={ anns:=[],frz:=[],rgs:=[] }
def zsd:CFn:=⟨.seq (.region false [
oo 2 (.mv (.k (.nil 1)))]) (
.seq (.region false [
oo 3 (.mv (.k (.d (.i .i64 0))))]) (
.seq (.seq (.region false [
oo 9 (.mv (.t 0)),
oo 10 (.len 0 (.t 9)),
oo 11 (.mv (.k (.d (.i .i64 0))))]) (
.block 0 (.loop ⟨[0,3,9,10,11],[],[],[],[],false⟩ (.seq (.region false [
oo 12 (.bin .lss (.t 11) (.t 10))]) (
.seq (.cond (.t 12) (
.skip) (.exit 0)) (
.seq (.block 1 (.seq (.region false [
oo 13 (.ia 1 (.t 9) (.t 11)),
oo 14 (.ld false 1 (.t 13)),
oo 5 (.mv (.t 14))]) (
.seq (.region false [
oo 15 (.mv (.t 3)),
oo 16 (.mv (.t 5)),
oo 17 (.len 0 (.t 16)),
oo 18 (.bin .add (.t 15) (.t 17)),
oo 3 (.mv (.t 18))]) (
.seq (.region false [
oo 19 (.mv (.t 3)),
oo 20 (.bin .lss (.t 19) (.k (.d (.i .i64 0))))]) (
.cond (.t 20) (
.region false [
oo 21 (.die),
⟨none,.die,none,0⟩]) (.skip)))))) (
.region false [
oo 22 (.bin .add (.t 11) (.k (.d (.i .i64 1)))),
oo 11 (.mv (.t 22))]))))))) (
.seq (.region false [
oo 23 (.mv (.t 3)),
oo 24 (.callr 216 [(.k (.nil 1)),(.t 23)] 4),
oo 6 (.mv (.t 24))]) (
.seq (.seq (.region false [
oo 25 (.mv (.t 0)),
oo 26 (.len 0 (.t 25)),
oo 27 (.mv (.k (.d (.i .i64 0))))]) (
.block 2 (.loop ⟨[6,25,26,27],[],[],[],[],false⟩ (.seq (.region false [
oo 28 (.bin .lss (.t 27) (.t 26))]) (
.seq (.cond (.t 28) (
.skip) (.exit 2)) (
.seq (.block 3 (.seq (.region false [
oo 29 (.ia 1 (.t 25) (.t 27)),
oo 30 (.ld false 1 (.t 29)),
oo 8 (.mv (.t 30))]) (
.region false [
oo 31 (.mv (.t 6)),
oo 32 (.mv (.t 8)),
oo 33 (.apa 1 16 (.t 31) (.t 32)),
oo 6 (.mv (.t 33))]))) (
.region false [
oo 34 (.bin .add (.t 27) (.k (.d (.i .i64 1)))),
oo 27 (.mv (.t 34))]))))))) (
.seq (.region false [
oo 35 (.mv (.t 6)),
oo 2 (.mv (.t 35))]) (
.ret)))))),[.slot 2]⟩
def Zp5:Notes:={ anns:=[⟨[0,3,9,10,11],[],[],[],[],false⟩,⟨[6,25,26,27],[],[],[],[],false⟩],frz:=[0,0,0,0,0,0,0,0,0,0,0,0,0,0,0,0,0,0,0,0,0,3,0,0,0,0,0,0,0,0,0,0,1],rgs:=[] }
def Zd2:CFn:=⟨.seq (.region false [
oo 2 (.mv (.k (.d (.b false))))]) (
.seq (.region false [
oo 3 (.mv (.t 0)),
oo 4 (.call 217 [.t 3] 0 true),
oo 5 (.mv (.t 4)),
⟨some 6,.mv (.t 0),(some (5,true)),0⟩,
⟨some 7,.call 218 [.t 6,(.k (.d (.f 219 [] [])))] 4 true,(some (5,true)),0⟩,
⟨some 8,.un .not (.t 7),(some (5,true)),0⟩,
oo 9 (.pick (.t 5) (.t 8) (.k (.d (.b false)))),
oo 2 (.mv (.t 9))]) (
.ret)),[.slot 2]⟩
def Zp6:Notes:={ anns:=[],frz:=[],rgs:=[] }
def Zl1:CFn:=⟨.seq (.region false [
oo 4 (.mv (.k (.d (.b false))))]) (
.seq (.region false [
oo 5 (.mv (.t 0)),
oo 6 (.mv (.t 1)),
oo 7 (.call 221 [.t 5,.t 6] 4 true),
oo 8 (.bin .geq (.t 7) (.k (.d (.i .i64 0)))),
oo 4 (.mv (.t 8))]) (
.ret)),[.slot 4]⟩
def Zp7:Notes:={ anns:=[],frz:=[],rgs:=[] }
def Zjb:CFn:=⟨.seq (.region false [
oo 2 (.box (.t 0)),
oo 3 (.mv (.k (.d (.b false))))]) (
.seq (.region false [
oo 4 (.ld true 3 (.t 1)),
oo 5 (.ld true 3 (.t 2)),
oo 6 (.call 205 [.t 4,.t 5] 0 true),
oo 7 (.un .not (.t 6)),
oo 3 (.mv (.t 7))]) (
.ret)),[.slot 3]⟩
def Zp8:Notes:={ anns:=[],frz:=[],rgs:=[] }
def z9l:CFn:=⟨.seq (.region false [
oo 2 (.box (.t 0)),
oo 3 (.box (.t 1)),
oo 4 (.mv (.k (.d (.b false))))]) (
.seq (.region false [
oo 5 (.fa 0 (.t 3)),
oo 6 (.ld false 1 (.t 5)),
oo 7 (.bin .geq (.t 6) (.k (.d (.i .i64 0)))),
oo 8 (.mv (.t 7)),
⟨some 9,.fa 0 (.t 3),(some (8,true)),0⟩,
⟨some 10,.ld false 1 (.t 9),(some (8,true)),0⟩,
⟨some 11,.fa 1 (.t 2),(some (8,true)),0⟩,
⟨some 12,.ld false 1 (.t 11),(some (8,true)),0⟩,
⟨some 13,.len 0 (.t 12),(some (8,true)),0⟩,
⟨some 14,.bin .lss (.t 10) (.t 13),(some (8,true)),0⟩,
oo 15 (.pick (.t 8) (.t 14) (.k (.d (.b false)))),
oo 16 (.mv (.t 15)),
⟨some 17,.fa 1 (.t 3),(some (16,true)),0⟩,
⟨some 18,.ld false 1 (.t 17),(some (16,true)),0⟩,
⟨some 19,.len 0 (.t 18),(some (16,true)),0⟩,
⟨some 20,.bin .leq (.t 19) (.k (.d (.i .i64 5))),(some (16,true)),0⟩,
oo 21 (.pick (.t 16) (.t 20) (.k (.d (.b false)))),
oo 22 (.mv (.t 21)),
⟨some 23,.fa 1 (.t 3),(some (22,true)),0⟩,
⟨some 24,.ld false 1 (.t 23),(some (22,true)),0⟩,
⟨some 25,.mkf 223 [] [.t 2] true,(some (22,true)),0⟩,
⟨some 26,.call 222 [.t 24,.t 25] 4 true,(some (22,true)),0⟩,
⟨some 27,.un .not (.t 26),(some (22,true)),0⟩,
oo 28 (.pick (.t 22) (.t 27) (.k (.d (.b false)))),
oo 4 (.mv (.t 28))]) (
.ret)),[.slot 4]⟩
def Zp9:Notes:={ anns:=[],frz:=[0,0,0,0,0,0,0,0,0,0,0,0,0,0,0,0,0,0,0,0,0,0,0,1],rgs:=[] }
def Zjc:CFn:=⟨.seq (.region false [
oo 2 (.box (.t 0)),
oo 3 (.mv (.k (.d (.b false))))]) (
.seq (.region false [
oo 4 (.ld false 1 (.t 1)),
oo 5 (.ld true 3 (.t 2)),
oo 6 (.callv (.t 4) [.t 5] 4 true),
oo 7 (.un .not (.t 6)),
oo 3 (.mv (.t 7))]) (
.ret)),[.slot 3]⟩
def Zqa:Notes:={ anns:=[],frz:=[],rgs:=[] }
def zy3:CFn:=⟨.seq (.region false [
oo 2 (.box (.t 0)),
oo 3 (.box (.t 1)),
oo 4 (.mv (.k (.d .nm)))]) (
.seq (.region false [
oo 13 (.mkm),
oo 5 (.mv (.t 13))]) (
.seq (.seq (.region false [
oo 14 (.fa 1 (.t 3)),
oo 15 (.ld false 1 (.t 14)),
oo 16 (.len 0 (.t 15)),
oo 17 (.bin .add (.t 16) (.k (.d (.i .i64 1)))),
oo 18 (.mv (.k (.d (.i .i64 0))))]) (
.block 0 (.loop ⟨[2,3,5,17,18],[],[],[],[],true⟩ (.seq (.region false [
oo 19 (.bin .lss (.t 18) (.t 17))]) (
.seq (.cond (.t 19) (
.skip) (.exit 0)) (
.seq (.block 1 (.seq (.region false [
oo 20 (.mv (.t 18)),
oo 6 (.mv (.t 20))]) (
.seq (.region false [
oo 22 (.ld true 3 (.t 3)),
oo 23 (.mv (.t 6)),
oo 24 (.call 225 [.t 22,.t 23] 0 true),
oo 21 (.mv (.t 24)),
oo 25 (.ext (.t 21) 0),
oo 26 (.ext (.t 21) 1),
oo 7 (.mv (.t 25)),
oo 8 (.mv (.t 26))]) (
.seq (.region false [
oo 27 (.ld true 3 (.t 2)),
oo 28 (.mv (.t 7)),
oo 29 (.call 181 [.t 27,.t 28] 0 true),
oo 30 (.mv (.k (.d (.i .i64 0))))]) (
.block 2 (.loop ⟨[2,3,5,6,17,18,29,30],[],[],[],[],true⟩ (.seq (.region false [
oo 31 (.bin .lss (.t 30) (.t 29))]) (
.seq (.cond (.t 31) (
.skip) (.exit 2)) (
.seq (.block 3 (.seq (.region false [
oo 32 (.mv (.t 30)),
oo 9 (.mv (.t 32))]) (
.seq (.region false [
oo 33 (.mv (.t 6)),
oo 34 (.mv (.t 9)),
oo 35 (.build [(.d (.i .i64 0)),(.d (.i .i64 0))] [(0,1,.t 33),(1,1,.t 34)]),
oo 10 (.zero (.agg [(.d (.i .i64 0)),(.d (.i .i64 0))])),
⟨none,.st 2 (.t 10) (.t 35),none,0⟩]) (
.seq (.region false [
oo 37 (.ld true 3 (.t 3)),
oo 38 (.mv (.t 6)),
oo 39 (.call 225 [.t 37,.t 38] 0 true),
oo 36 (.mv (.t 39)),
oo 40 (.ext (.t 36) 0),
oo 41 (.ext (.t 36) 1),
oo 11 (.mv (.t 40)),
oo 12 (.mv (.t 41))]) (
.seq (.region false [
oo 42 (.mv (.t 12)),
oo 43 (.mv (.t 42)),
⟨some 44,.ld true 3 (.t 2),(some (43,true)),0⟩,
⟨some 45,.ld true 3 (.t 3),(some (43,true)),0⟩,
⟨some 46,.ld true 2 (.t 10),(some (43,true)),0⟩,
⟨some 47,.call 214 [.t 44,.t 45,.t 46] 0 true,(some (43,true)),0⟩,
⟨some 48,.un .not (.t 47),(some (43,true)),0⟩,
oo 49 (.pick (.t 43) (.t 48) (.k (.d (.b false))))]) (
.cond (.t 49) (
.region false [
oo 50 (.mv (.t 5)),
oo 51 (.ld true 2 (.t 10)),
⟨none,.mu true [.i,.i] (.t 50) (.t 51) (.k (.d (.b true))),none,0⟩]) (.skip))))))) (
.region false [
oo 52 (.bin .add (.t 30) (.k (.d (.i .i64 1)))),
oo 30 (.mv (.t 52))])))))))))) (
.region false [
oo 53 (.bin .add (.t 18) (.k (.d (.i .i64 1)))),
oo 18 (.mv (.t 53))]))))))) (
.seq (.region false [
oo 54 (.mv (.t 5)),
oo 4 (.mv (.t 54))]) (
.ret)))),[.slot 4]⟩
def Zqb:Notes:={ anns:=[⟨[2,3,5,17,18],[],[],[],[],true⟩,⟨[2,3,5,6,17,18,29,30],[],[],[],[],true⟩],frz:=[],rgs:=[] }
def Zjd:CFn:=⟨.seq (.region false [
oo 3 (.box (.t 1)),
oo 4 (.mv (.k (.d (.b false))))]) (
.seq (.region false [
oo 5 (.mv (.t 0)),
oo 6 (.mkf 227 [] [.t 3] true),
oo 7 (.call 226 [.t 5,.t 6] 4 true),
oo 8 (.un .not (.t 7)),
oo 4 (.mv (.t 8))]) (
.ret)),[.slot 4]⟩
def Zqc:Notes:={ anns:=[],frz:=[0,0,0,1],rgs:=[] }
def z01:CFn:=⟨.seq (.region false [
oo 4 (.box (.t 0)),
oo 5 (.mv (.k (.d (.b false))))]) (
.seq (.region false [
oo 8 (.fa 0 (.t 4)),
oo 9 (.ld false 1 (.t 8)),
oo 10 (.fa 1 (.t 4)),
oo 11 (.ld false 1 (.t 10)),
oo 12 (.build [(.d (.i .i64 0)),(.d (.i .i64 0))] [(0,1,.t 9),(1,1,.t 11)]),
oo 6 (.zero (.agg [(.d (.i .i64 0)),(.d (.i .i64 0))])),
⟨none,.st 2 (.t 6) (.t 12),none,0⟩]) (
.seq (.region false [
oo 13 (.ld false 1 (.t 1)),
oo 14 (.ld true 2 (.t 6)),
oo 15 (.lk true [.i,.i] false (.d (.b false)) (.t 13) (.t 14)),
oo 7 (.mv (.t 15))]) (
.seq (.region false [
oo 16 (.ld false 1 (.t 1)),
oo 17 (.ld true 2 (.t 6)),
⟨none,.del true [.i,.i] (.t 16) (.t 17),none,0⟩]) (
.seq (.region false [
oo 18 (.mv (.t 7)),
oo 19 (.mv (.t 18)),
⟨some 20,.fa 2 (.t 4),(some (19,true)),0⟩,
⟨some 21,.ld true 8 (.t 20),(some (19,true)),0⟩,
⟨some 22,.call 210 [.t 21] 0 true,(some (19,true)),0⟩,
oo 23 (.pick (.t 19) (.t 22) (.k (.d (.b false)))),
oo 24 (.mv (.t 23)),
⟨some 25,.ld true 3 (.t 2),(some (24,true)),0⟩,
⟨some 26,.fa 2 (.t 4),(some (24,true)),0⟩,
⟨some 27,.ld true 8 (.t 26),(some (24,true)),0⟩,
⟨some 28,.call 211 [.t 25,.t 27] 0 true,(some (24,true)),0⟩,
oo 29 (.pick (.t 24) (.t 28) (.k (.d (.b false)))),
oo 30 (.mv (.t 29)),
⟨some 31,.fa 2 (.t 4),(some (30,true)),0⟩,
⟨some 32,.ld true 8 (.t 31),(some (30,true)),0⟩,
⟨some 33,.call 192 [.t 32] 0 true,(some (30,true)),0⟩,
⟨some 34,.mkf 213 [] [.t 3,.t 2] true,(some (30,true)),0⟩,
⟨some 35,.call 212 [.t 33,.t 34] 4 true,(some (30,true)),0⟩,
oo 36 (.pick (.t 30) (.t 35) (.k (.d (.b false)))),
oo 5 (.mv (.t 36))]) (
.ret))))),[.slot 5]⟩
def Zqd:Notes:={ anns:=[],frz:=[0,0,0,0,0,0,0,0,0,0,0,0,0,0,0,0,0,0,0,0,0,0,0,0,0,0,0,0,0,0,0,0,1],rgs:=[] }
def Zje:CFn:=⟨.seq (.region false [
oo 1 (.box (.t 0)),
oo 2 (.mv (.k (.d (.b false))))]) (
.seq (.region false [
oo 3 (.ld true 8 (.t 1)),
oo 4 (.call 228 [.t 3,(.k (.d (.i .i64 12)))] 0 true),
oo 2 (.mv (.t 4))]) (
.ret)),[.slot 2]⟩
def Zqe:Notes:={ anns:=[],frz:=[],rgs:=[] }
def zy4:CFn:=⟨.seq (.region false [
oo 2 (.box (.t 0)),
oo 3 (.box (.t 1)),
oo 4 (.mv (.k (.d (.b false))))]) (
.seq (.seq (.region false [
oo 5 (.fa 0 (.t 3)),
oo 6 (.ld false 1 (.t 5)),
oo 7 (.bin .eql (.t 6) (.k (.d (.i .i64 2)))),
oo 8 (.mv (.t 7)),
⟨some 9,.fa 0 (.t 3),(some (8,false)),0⟩,
⟨some 10,.ld false 1 (.t 9),(some (8,false)),0⟩,
⟨some 11,.bin .eql (.t 10) (.k (.d (.i .i64 3))),(some (8,false)),0⟩,
oo 12 (.pick (.t 8) (.k (.d (.b true))) (.t 11)),
oo 13 (.mv (.t 12)),
⟨some 14,.fa 5 (.t 3),(some (13,true)),0⟩,
⟨some 15,.ld false 1 (.t 14),(some (13,true)),0⟩,
⟨some 16,.bin .lss (.t 15) (.k (.d (.i .i64 1))),(some (13,true)),0⟩,
⟨some 17,.mv (.t 16),(some (13,true)),0⟩,
⟨some 18,.fa 5 (.t 3),(some (17,false)),0⟩,
⟨some 19,.ld false 1 (.t 18),(some (17,false)),0⟩,
⟨some 20,.fa 1 (.t 2),(some (17,false)),0⟩,
⟨some 21,.ld false 1 (.t 20),(some (17,false)),0⟩,
⟨some 22,.len 0 (.t 21),(some (17,false)),0⟩,
⟨some 23,.bin .gtr (.t 19) (.t 22),(some (17,false)),0⟩,
⟨some 24,.pick (.t 17) (.k (.d (.b true))) (.t 23),(some (13,true)),0⟩,
⟨some 25,.mv (.t 24),(some (13,true)),0⟩,
⟨some 26,.fa 1 (.t 2),(some (25,false)),0⟩,
⟨some 27,.ld false 1 (.t 26),(some (25,false)),0⟩,
⟨some 28,.fa 5 (.t 3),(some (25,false)),0⟩,
⟨some 29,.ld false 1 (.t 28),(some (25,false)),0⟩,
⟨some 30,.bin .sub (.t 29) (.k (.d (.i .i64 1))),(some (25,false)),0⟩,
⟨some 31,.ia 2 (.t 27) (.t 30),(some (25,false)),0⟩,
⟨some 32,.fa 0 (.t 31),(some (25,false)),0⟩,
⟨some 33,.ld false 1 (.t 32),(some (25,false)),0⟩,
⟨some 34,.un .not (.t 33),(some (25,false)),0⟩,
⟨some 35,.pick (.t 25) (.k (.d (.b true))) (.t 34),(some (13,true)),0⟩,
oo 36 (.pick (.t 13) (.t 35) (.k (.d (.b false))))]) (
.cond (.t 36) (
.seq (.region false [
oo 4 (.mv (.k (.d (.b false))))]) (
.ret)) (.skip))) (
.seq (.region false [
oo 37 (.fa 7 (.t 3)),
oo 38 (.ld false 1 (.t 37)),
oo 39 (.mkf 230 [] [.t 2] true),
oo 40 (.call 229 [.t 38,.t 39] 4 true),
oo 41 (.un .not (.t 40)),
oo 4 (.mv (.t 41))]) (
.ret))),[.slot 4]⟩
def Zqf:Notes:={ anns:=[],frz:=[0,0,0,0,0,0,0,0,0,0,0,0,0,0,0,0,0,0,0,0,0,0,0,0,0,0,0,0,0,0,0,0,0,0,0,0,0,0,1],rgs:=[] }
def Zjf:CFn:=⟨.seq (.region false [
oo 3 (.box (.t 1)),
oo 4 (.mv (.k (.d (.b false))))]) (
.seq (.region false [
oo 5 (.mv (.t 0)),
oo 6 (.mkf 232 [] [.t 3] true),
oo 7 (.call 231 [.t 5,.t 6] 4 true),
oo 8 (.un .not (.t 7)),
oo 4 (.mv (.t 8))]) (
.ret)),[.slot 4]⟩
def Zqg:Notes:={ anns:=[],frz:=[0,0,0,1],rgs:=[] }
def Zjg:CFn:=⟨.seq (.region false [
oo 3 (.box (.t 0)),
oo 4 (.mv (.k (.d (.b false))))]) (
.seq (.region false [
oo 5 (.ld true 3 (.t 1)),
oo 6 (.ld true 3 (.t 2)),
oo 7 (.ld true 2 (.t 3)),
oo 8 (.call 214 [.t 5,.t 6,.t 7] 0 true),
oo 4 (.mv (.t 8))]) (
.ret)),[.slot 4]⟩
def Zqh:Notes:={ anns:=[],frz:=[],rgs:=[] }
def z9m:CFn:=⟨.seq (.region false [
oo 3 (.box (.t 0)),
oo 4 (.box (.t 1)),
oo 5 (.box (.t 2)),
oo 6 (.mv (.k (.d (.b false))))]) (
.seq (.region false [
oo 10 (.ld true 3 (.t 4)),
oo 11 (.iaa 2 1 (.t 5) (.k (.d (.i .i64 0)))),
oo 12 (.ld false 1 (.t 11)),
oo 13 (.call 225 [.t 10,.t 12] 0 true),
oo 9 (.mv (.t 13)),
oo 14 (.ext (.t 9) 0),
oo 15 (.ext (.t 9) 1),
oo 7 (.mv (.t 14)),
oo 8 (.mv (.t 15))]) (
.seq (.region true [
oo 16 (.mv (.t 8)),
⟨some 17,.mv (.t 16),none,1⟩,
⟨some 18,.iaa 2 1 (.t 5) (.k (.d (.i .i64 1))),(some (17,true)),3⟩,
⟨some 19,.ld false 1 (.t 18),(some (17,true)),7⟩,
⟨some 20,.bin .geq (.t 19) (.k (.d (.i .i64 0))),(some (17,true)),15⟩,
⟨some 21,.pick (.t 17) (.t 20) (.k (.d (.b false))),none,31⟩,
⟨some 22,.mv (.t 21),none,63⟩,
⟨some 23,.iaa 2 1 (.t 5) (.k (.d (.i .i64 1))),(some (22,true)),127⟩,
⟨some 24,.ld false 1 (.t 23),(some (22,true)),255⟩,
⟨some 25,.ld true 3 (.t 3),(some (22,true)),127⟩,
⟨some 26,.mv (.t 7),(some (22,true)),127⟩,
⟨some 27,.call 181 [.t 25,.t 26] 0 true,(some (22,true)),1663⟩,
⟨some 28,.bin .lss (.t 24) (.t 27),(some (22,true)),4095⟩,
⟨some 29,.pick (.t 22) (.t 28) (.k (.d (.b false))),none,8191⟩,
⟨some 30,.mv (.t 29),none,16383⟩,
⟨some 31,.ld true 3 (.t 3),(some (30,true)),32767⟩,
⟨some 32,.mv (.t 7),(some (30,true)),32767⟩,
⟨some 33,.iaa 2 1 (.t 5) (.k (.d (.i .i64 1))),(some (30,true)),32767⟩,
⟨some 34,.ld false 1 (.t 33),(some (30,true)),163839⟩,
⟨some 35,.call 182 [.t 31,.t 32,.t 34] 0 true,(some (30,true)),524287⟩,
⟨some 36,.iaa 2 1 (.t 5) (.k (.d (.i .i64 0))),(some (30,true)),32767⟩,
⟨some 37,.ld false 1 (.t 36),(some (30,true)),1081343⟩,
⟨some 38,.bin .eql (.t 37) (.k (.d (.i .i64 0))),(some (30,true)),3178495⟩,
⟨some 39,.eqb false (.t 35) (.t 38),(some (30,true)),8388607⟩,
⟨some 40,.pick (.t 30) (.t 39) (.k (.d (.b false))),none,16777215⟩,
⟨some 6,.mv (.t 40),none,33554431⟩]) (
.ret))),[.slot 6]⟩
def Zqi:Notes:={ anns:=[],frz:=[],rgs:=[] }
def Zd3:CFn:=⟨.seq (.region false [
oo 4 (.mv (.k (.nil 1)))]) (
.seq (.seq (.region false [
oo 5 (.mv (.t 1)),
oo 6 (.bin .lss (.t 5) (.k (.d (.i .i64 0))))]) (
.cond (.t 6) (
.region false [
oo 7 (.die),
⟨none,.die,none,0⟩]) (.skip))) (
.seq (.seq (.region false [
oo 8 (.mv (.t 1)),
oo 9 (.mv (.t 0)),
oo 10 (.capn (.t 9)),
oo 11 (.mv (.t 0)),
oo 12 (.len 0 (.t 11)),
oo 13 (.bin .sub (.t 10) (.t 12)),
oo 14 (.bin .sub (.t 8) (.t 13)),
oo 1 (.mv (.t 14))]) (
.seq (.region false [
oo 15 (.mv (.t 1)),
oo 16 (.bin .gtr (.t 15) (.k (.d (.i .i64 0))))]) (
.cond (.t 16) (
.region false [
oo 17 (.mv (.t 0)),
oo 18 (.mv (.t 0)),
oo 19 (.capn (.t 18)),
oo 20 (.slc 1 (.t 17) none (some (.t 19))),
oo 21 (.mv (.t 1)),
oo 22 (.apz 1 16 [(.s [])] (.t 20) (.t 21)),
oo 23 (.mv (.t 0)),
oo 24 (.len 0 (.t 23)),
oo 25 (.slc 1 (.t 22) none (some (.t 24))),
oo 0 (.mv (.t 25))]) (.skip)))) (
.seq (.region false [
oo 26 (.mv (.t 0)),
oo 4 (.mv (.t 26))]) (
.ret)))),[.raw 4]⟩
def Zqj:Notes:={ anns:=[],frz:=[0,0,0,0,0,0,0,0,0,0,0,0,0,0,0,0,0,0,0,0,1],rgs:=[],raw:=true }
def z68:CFn:=⟨.seq (.region false [
oo 2 (.mv (.k (.d (.b false))))]) (
.seq (.region false [
oo 6 (.mkm),
oo 3 (.mv (.t 6))]) (
.seq (.seq (.region false [
oo 7 (.mv (.t 0)),
oo 8 (.len 0 (.t 7)),
oo 9 (.mv (.k (.d (.i .i64 0))))]) (
.block 0 (.loop ⟨[3,7,8,9],[],[],[],[],true⟩ (.seq (.region false [
oo 10 (.bin .lss (.t 9) (.t 8))]) (
.seq (.cond (.t 10) (
.skip) (.exit 0)) (
.seq (.block 1 (.seq (.region false [
oo 11 (.ia 1 (.t 7) (.t 9)),
oo 12 (.ld false 1 (.t 11)),
oo 5 (.mv (.t 12))]) (
.seq (.seq (.region false [
oo 13 (.mv (.t 3)),
oo 14 (.mv (.t 5)),
oo 15 (.lk false [.s] false (.d (.b false)) (.t 13) (.t 14))]) (
.cond (.t 15) (
.seq (.region false [
oo 2 (.mv (.k (.d (.b false))))]) (
.ret)) (.skip))) (
.region false [
oo 16 (.mv (.t 3)),
oo 17 (.mv (.t 5)),
⟨none,.mu false [.s] (.t 16) (.t 17) (.k (.d (.b true))),none,0⟩])))) (
.region false [
oo 18 (.bin .add (.t 9) (.k (.d (.i .i64 1)))),
oo 9 (.mv (.t 18))]))))))) (
.seq (.region false [
oo 2 (.mv (.k (.d (.b true))))]) (
.ret)))),[.slot 2]⟩
def Zqk:Notes:={ anns:=[⟨[3,7,8,9],[],[],[],[],true⟩],frz:=[],rgs:=[] }
def Zl2:CFn:=⟨.seq (.region false [
oo 4 (.mv (.k (.d (.b false))))]) (
.seq (.region false [
oo 5 (.mv (.t 0)),
oo 6 (.mv (.t 1)),
oo 7 (.call 233 [.t 5,.t 6] 4 true),
oo 8 (.bin .geq (.t 7) (.k (.d (.i .i64 0)))),
oo 4 (.mv (.t 8))]) (
.ret)),[.slot 4]⟩
def Zql:Notes:={ anns:=[],frz:=[],rgs:=[] }
def Zjh:CFn:=⟨.seq (.region false [
oo 2 (.mv (.k (.d (.b false))))]) (
.seq (.region false [
oo 3 (.mv (.t 0)),
oo 4 (.call 220 [.t 3] 0 true),
oo 5 (.un .not (.t 4)),
oo 2 (.mv (.t 5))]) (
.ret)),[.slot 2]⟩
def Zqm:Notes:={ anns:=[],frz:=[],rgs:=[] }
def zug:CFn:=⟨.seq (.region false [
oo 2 (.mv (.k (.d (.b false))))]) (
.seq (.seq (.region false [
oo 5 (.mv (.t 0)),
oo 6 (.len 1 (.t 5)),
oo 7 (.bin .lss (.t 6) (.k (.d (.i .i64 1)))),
oo 8 (.mv (.t 7)),
⟨some 9,.mv (.t 0),(some (8,false)),0⟩,
⟨some 10,.len 1 (.t 9),(some (8,false)),0⟩,
⟨some 11,.bin .gtr (.t 10) (.k (.d (.i .i64 8))),(some (8,false)),0⟩,
oo 12 (.pick (.t 8) (.k (.d (.b true))) (.t 11))]) (
.cond (.t 12) (
.seq (.region false [
oo 2 (.mv (.k (.d (.b false))))]) (
.ret)) (.skip))) (
.seq (.seq (.region false [
oo 13 (.mv (.t 0)),
oo 14 (.len 1 (.t 13)),
oo 15 (.mv (.k (.d (.i .i64 0))))]) (
.block 0 (.loop ⟨[0,14,15],[],[],[],[],true⟩ (.seq (.region false [
oo 16 (.bin .lss (.t 15) (.t 14))]) (
.seq (.cond (.t 16) (
.skip) (.exit 0)) (
.seq (.block 1 (.seq (.region false [
oo 17 (.mv (.t 15)),
oo 3 (.mv (.t 17))]) (
.seq (.region false [
oo 18 (.mv (.t 0)),
oo 19 (.mv (.t 3)),
oo 20 (.ixs (.t 18) (.t 19)),
oo 21 (.bin .geq (.t 20) (.k (.d (.i .u8 97)))),
oo 22 (.mv (.t 21)),
⟨some 23,.mv (.t 0),(some (22,true)),0⟩,
⟨some 24,.mv (.t 3),(some (22,true)),0⟩,
⟨some 25,.ixs (.t 23) (.t 24),(some (22,true)),0⟩,
⟨some 26,.bin .leq (.t 25) (.k (.d (.i .u8 122))),(some (22,true)),0⟩,
oo 27 (.pick (.t 22) (.t 26) (.k (.d (.b false)))),
oo 4 (.mv (.t 27))]) (
.seq (.region false [
oo 28 (.mv (.t 4)),
oo 29 (.un .not (.t 28)),
oo 30 (.mv (.t 29)),
⟨some 31,.mv (.t 3),(some (30,true)),0⟩,
⟨some 32,.bin .eql (.t 31) (.k (.d (.i .i64 0))),(some (30,true)),0⟩,
⟨some 33,.mv (.t 32),(some (30,true)),0⟩,
⟨some 34,.mv (.t 0),(some (33,false)),0⟩,
⟨some 35,.mv (.t 3),(some (33,false)),0⟩,
⟨some 36,.ixs (.t 34) (.t 35),(some (33,false)),0⟩,
⟨some 37,.bin .lss (.t 36) (.k (.d (.i .u8 48))),(some (33,false)),0⟩,
⟨some 38,.pick (.t 33) (.k (.d (.b true))) (.t 37),(some (30,true)),0⟩,
⟨some 39,.mv (.t 38),(some (30,true)),0⟩,
⟨some 40,.mv (.t 0),(some (39,false)),0⟩,
⟨some 41,.mv (.t 3),(some (39,false)),0⟩,
⟨some 42,.ixs (.t 40) (.t 41),(some (39,false)),0⟩,
⟨some 43,.bin .gtr (.t 42) (.k (.d (.i .u8 57))),(some (39,false)),0⟩,
⟨some 44,.pick (.t 39) (.k (.d (.b true))) (.t 43),(some (30,true)),0⟩,
oo 45 (.pick (.t 30) (.t 44) (.k (.d (.b false))))]) (
.cond (.t 45) (
.seq (.region false [
oo 2 (.mv (.k (.d (.b false))))]) (
.ret)) (.skip)))))) (
.region false [
oo 46 (.bin .add (.t 15) (.k (.d (.i .i64 1)))),
oo 15 (.mv (.t 46))]))))))) (
.seq (.region false [
oo 2 (.mv (.k (.d (.b true))))]) (
.ret)))),[.slot 2]⟩
def Zqn:Notes:={ anns:=[⟨[0,14,15],[],[],[],[],true⟩],frz:=[],rgs:=[] }
def Zl3:CFn:=⟨.seq (.region false [
oo 4 (.mv (.k (.d (.i .i64 0))))]) (
.seq (.seq (.region false [
oo 6 (.mv (.t 0)),
oo 7 (.len 0 (.t 6)),
oo 8 (.mv (.k (.d (.i .i64 0))))]) (
.block 0 (.loop ⟨[0,1,7,8],[],[],[],[],true⟩ (.seq (.region false [
oo 9 (.bin .lss (.t 8) (.t 7))]) (
.seq (.cond (.t 9) (
.skip) (.exit 0)) (
.seq (.block 1 (.seq (.region false [
oo 10 (.mv (.t 8)),
oo 5 (.mv (.t 10))]) (
.seq (.region false [
oo 11 (.mv (.t 1)),
oo 12 (.mv (.t 0)),
oo 13 (.mv (.t 5)),
oo 14 (.ia 3 (.t 12) (.t 13)),
oo 15 (.ld true 3 (.t 14)),
oo 16 (.callv (.t 11) [.t 15] 4 true)]) (
.cond (.t 16) (
.seq (.region false [
oo 17 (.mv (.t 5)),
oo 4 (.mv (.t 17))]) (
.ret)) (.skip))))) (
.region false [
oo 18 (.bin .add (.t 8) (.k (.d (.i .i64 1)))),
oo 8 (.mv (.t 18))]))))))) (
.seq (.region false [
oo 4 (.mv (.k (.d (.i .i64 (-1)))))]) (
.ret))),[.slot 4]⟩
def Zqo:Notes:={ anns:=[⟨[0,1,7,8],[],[],[],[],true⟩],frz:=[],rgs:=[] }
def Zl4:CFn:=⟨.seq (.region false [
oo 4 (.mv (.k (.d (.b false))))]) (
.seq (.region false [
oo 5 (.mv (.t 0)),
oo 6 (.mv (.t 1)),
oo 7 (.call 234 [.t 5,.t 6] 4 true),
oo 8 (.bin .geq (.t 7) (.k (.d (.i .i64 0)))),
oo 4 (.mv (.t 8))]) (
.ret)),[.slot 4]⟩
def Zqp:Notes:={ anns:=[],frz:=[],rgs:=[] }
def Zji:CFn:=⟨.seq (.region false [
oo 2 (.box (.t 0)),
oo 3 (.mv (.k (.d (.b false))))]) (
.seq (.region false [
oo 4 (.ld true 3 (.t 1)),
oo 5 (.ld true 2 (.t 2)),
oo 6 (.call 224 [.t 4,.t 5] 0 true),
oo 7 (.un .not (.t 6)),
oo 3 (.mv (.t 7))]) (
.ret)),[.slot 3]⟩
def Zqq:Notes:={ anns:=[],frz:=[],rgs:=[] }
def z69:CFn:=⟨.seq (.region false [
oo 2 (.box (.t 0)),
oo 3 (.box (.t 1)),
oo 4 (.mv (.k (.d (.b false))))]) (
.seq (.seq (.region false [
oo 5 (.fa 0 (.t 3)),
oo 6 (.ld false 1 (.t 5))]) (
.cond (.t 6) (
.seq (.region false [
oo 7 (.fa 1 (.t 3)),
oo 8 (.ld false 1 (.t 7)),
oo 9 (.bin .geq (.t 8) (.k (.d (.i .i64 0)))),
oo 10 (.mv (.t 9)),
⟨some 11,.fa 1 (.t 3),(some (10,true)),0⟩,
⟨some 12,.ld false 1 (.t 11),(some (10,true)),0⟩,
⟨some 13,.fa 0 (.t 2),(some (10,true)),0⟩,
⟨some 14,.ld false 1 (.t 13),(some (10,true)),0⟩,
⟨some 15,.len 0 (.t 14),(some (10,true)),0⟩,
⟨some 16,.bin .lss (.t 12) (.t 15),(some (10,true)),0⟩,
oo 17 (.pick (.t 10) (.t 16) (.k (.d (.b false)))),
oo 18 (.mv (.t 17)),
⟨some 19,.fa 0 (.t 2),(some (18,true)),0⟩,
⟨some 20,.ld false 1 (.t 19),(some (18,true)),0⟩,
⟨some 21,.fa 1 (.t 3),(some (18,true)),0⟩,
⟨some 22,.ld false 1 (.t 21),(some (18,true)),0⟩,
⟨some 23,.ia 3 (.t 20) (.t 22),(some (18,true)),0⟩,
⟨some 24,.fa 2 (.t 23),(some (18,true)),0⟩,
⟨some 25,.ld false 1 (.t 24),(some (18,true)),0⟩,
⟨some 26,.un .not (.t 25),(some (18,true)),0⟩,
oo 27 (.pick (.t 18) (.t 26) (.k (.d (.b false)))),
oo 4 (.mv (.t 27))]) (
.ret)) (.skip))) (
.seq (.region false [
oo 28 (.fa 1 (.t 3)),
oo 29 (.ld false 1 (.t 28)),
oo 30 (.bin .geq (.t 29) (.k (.d (.i .i64 0)))),
oo 31 (.mv (.t 30)),
⟨some 32,.fa 1 (.t 3),(some (31,true)),0⟩,
⟨some 33,.ld false 1 (.t 32),(some (31,true)),0⟩,
⟨some 34,.fa 1 (.t 2),(some (31,true)),0⟩,
⟨some 35,.ld false 1 (.t 34),(some (31,true)),0⟩,
⟨some 36,.len 0 (.t 35),(some (31,true)),0⟩,
⟨some 37,.bin .lss (.t 33) (.t 36),(some (31,true)),0⟩,
oo 38 (.pick (.t 31) (.t 37) (.k (.d (.b false)))),
oo 4 (.mv (.t 38))]) (
.ret))),[.slot 4]⟩
def Zqr:Notes:={ anns:=[],frz:=[],rgs:=[] }
def z7a:CFn:=⟨.seq (.region false [
oo 2 (.box (.t 0)),
oo 4 (.mv (.k (.d (.i .i64 0)))),
oo 5 (.mv (.k (.d (.b false))))]) (
.seq (.block 0 (.seq (.region false [
oo 7 (.mv (.t 1)),
oo 8 (.bin .eql (.t 7) (.k (.d (.i .i64 0)))),
oo 6 (.mv (.t 8))]) (
.cond (.t 6) (
.seq (.region false [
oo 9 (.fa 0 (.t 2)),
oo 10 (.ld false 1 (.t 9)),
oo 4 (.mv (.t 10)),
oo 5 (.mv (.k (.d (.b true))))]) (
.ret)) (.seq (.region false [
oo 12 (.mv (.t 1)),
oo 13 (.bin .lss (.t 12) (.k (.d (.i .i64 0)))),
oo 14 (.mv (.t 13)),
⟨some 15,.mv (.t 1),(some (14,false)),0⟩,
⟨some 16,.fa 1 (.t 2),(some (14,false)),0⟩,
⟨some 17,.ld false 1 (.t 16),(some (14,false)),0⟩,
⟨some 18,.len 0 (.t 17),(some (14,false)),0⟩,
⟨some 19,.bin .gtr (.t 15) (.t 18),(some (14,false)),0⟩,
oo 20 (.pick (.t 14) (.k (.d (.b true))) (.t 19)),
oo 21 (.mv (.t 20)),
⟨some 22,.fa 1 (.t 2),(some (21,false)),0⟩,
⟨some 23,.ld false 1 (.t 22),(some (21,false)),0⟩,
⟨some 24,.mv (.t 1),(some (21,false)),0⟩,
⟨some 25,.bin .sub (.t 24) (.k (.d (.i .i64 1))),(some (21,false)),0⟩,
⟨some 26,.ia 2 (.t 23) (.t 25),(some (21,false)),0⟩,
⟨some 27,.fa 0 (.t 26),(some (21,false)),0⟩,
⟨some 28,.ld false 1 (.t 27),(some (21,false)),0⟩,
oo 29 (.pick (.t 21) (.k (.d (.b true))) (.t 28)),
oo 11 (.mv (.t 29))]) (
.cond (.t 11) (
.seq (.region false [
oo 4 (.mv (.k (.d (.i .i64 0)))),
oo 5 (.mv (.k (.d (.b false))))]) (
.ret)) (.skip)))))) (
.seq (.region false [
oo 30 (.fa 1 (.t 2)),
oo 31 (.ld false 1 (.t 30)),
oo 32 (.mv (.t 1)),
oo 33 (.bin .sub (.t 32) (.k (.d (.i .i64 1)))),
oo 34 (.ia 2 (.t 31) (.t 33)),
oo 35 (.fa 1 (.t 34)),
oo 36 (.ld false 1 (.t 35)),
oo 4 (.mv (.t 36)),
oo 5 (.mv (.k (.d (.b true))))]) (
.ret))),[.slot 4,.slot 5]⟩
def Zqs:Notes:={ anns:=[],frz:=[],rgs:=[] }
def Zjj:CFn:=⟨.seq (.region false [
oo 4 (.mv (.k (.d (.b false))))]) (
.seq (.region false [
oo 5 (.mv (.t 0)),
oo 6 (.mv (.t 1)),
oo 7 (.call 235 [.t 5,.t 6] 4 true),
oo 8 (.bin .geq (.t 7) (.k (.d (.i .i64 0)))),
oo 4 (.mv (.t 8))]) (
.ret)),[.slot 4]⟩
def Zqt:Notes:={ anns:=[],frz:=[],rgs:=[] }
def Zjk:CFn:=⟨.seq (.region false [
oo 2 (.box (.t 0)),
oo 3 (.mv (.k (.d (.b false))))]) (
.seq (.region false [
oo 4 (.ld false 1 (.t 1)),
oo 5 (.ld true 10 (.t 2)),
oo 6 (.callv (.t 4) [.t 5] 4 true),
oo 7 (.un .not (.t 6)),
oo 3 (.mv (.t 7))]) (
.ret)),[.slot 3]⟩
def Zqu:Notes:={ anns:=[],frz:=[],rgs:=[] }
def zy5:CFn:=⟨.seq (.region false [
oo 2 (.box (.t 0)),
oo 3 (.box (.t 1)),
oo 4 (.mv (.k (.d (.b false))))]) (
.seq (.region false [
oo 6 (.fa 0 (.t 2)),
oo 7 (.ld false 1 (.t 6)),
oo 8 (.call 236 [.t 7] 0 true),
oo 5 (.mv (.t 8))]) (
.seq (.seq (.region false [
oo 9 (.ld false 1 (.t 3)),
oo 10 (.bin .lss (.t 9) (.k (.d (.i .i64 1)))),
oo 11 (.mv (.t 10)),
⟨some 12,.mv (.t 5),(some (11,false)),0⟩,
⟨some 13,.bin .eql (.t 12) (.k (.d (.i .i64 (-2)))),(some (11,false)),0⟩,
oo 14 (.pick (.t 11) (.k (.d (.b true))) (.t 13)),
oo 15 (.mv (.t 14)),
⟨some 16,.mv (.t 5),(some (15,false)),0⟩,
⟨some 17,.bin .geq (.t 16) (.k (.d (.i .i64 0))),(some (15,false)),0⟩,
⟨some 18,.mv (.t 17),(some (15,false)),0⟩,
⟨some 19,.fa 7 (.t 2),(some (18,true)),0⟩,
⟨some 20,.ld false 1 (.t 19),(some (18,true)),0⟩,
⟨some 21,.len 0 (.t 20),(some (18,true)),0⟩,
⟨some 22,.mv (.t 5),(some (18,true)),0⟩,
⟨some 23,.bin .neq (.t 21) (.t 22),(some (18,true)),0⟩,
⟨some 24,.pick (.t 18) (.t 23) (.k (.d (.b false))),(some (15,false)),0⟩,
oo 25 (.pick (.t 15) (.k (.d (.b true))) (.t 24)),
oo 26 (.mv (.t 25)),
⟨some 27,.fa 7 (.t 2),(some (26,false)),0⟩,
⟨some 28,.ld false 1 (.t 27),(some (26,false)),0⟩,
⟨some 29,.len 0 (.t 28),(some (26,false)),0⟩,
⟨some 30,.bin .gtr (.t 29) (.k (.d (.i .i64 4))),(some (26,false)),0⟩,
oo 31 (.pick (.t 26) (.k (.d (.b true))) (.t 30)),
oo 32 (.mv (.t 31)),
⟨some 33,.ld true 8 (.t 2),(some (32,false)),0⟩,
⟨some 34,.call 237 [.t 33] 0 true,(some (32,false)),0⟩,
⟨some 35,.un .not (.t 34),(some (32,false)),0⟩,
oo 36 (.pick (.t 32) (.k (.d (.b true))) (.t 35))]) (
.cond (.t 36) (
.seq (.region false [
oo 4 (.mv (.k (.d (.b false))))]) (
.ret)) (.skip))) (
.seq (.region false [
oo 37 (.fa 7 (.t 2)),
oo 38 (.ld false 1 (.t 37)),
oo 39 (.mkf 238 [] [.t 3] true),
oo 40 (.call 229 [.t 38,.t 39] 4 true),
oo 41 (.un .not (.t 40)),
oo 4 (.mv (.t 41))]) (
.ret)))),[.slot 4]⟩
def Zqv:Notes:={ anns:=[],frz:=[0,0,0,0,0,0,0,0,0,0,0,0,0,0,0,0,0,0,0,0,0,0,0,0,0,0,0,0,0,0,0,0,0,0,0,0,0,0,1],rgs:=[] }
def Zl5:CFn:=⟨.seq (.region false [
oo 4 (.mv (.k (.d (.b false))))]) (
.seq (.region false [
oo 5 (.mv (.t 0)),
oo 6 (.mv (.t 1)),
oo 7 (.call 239 [.t 5,.t 6] 4 true),
oo 8 (.bin .geq (.t 7) (.k (.d (.i .i64 0)))),
oo 4 (.mv (.t 8))]) (
.ret)),[.slot 4]⟩
def Zqw:Notes:={ anns:=[],frz:=[],rgs:=[] }
def Zjl:CFn:=⟨.seq (.region false [
oo 2 (.box (.t 0)),
oo 3 (.mv (.k (.d (.b false))))]) (
.seq (.region false [
oo 4 (.ld true 3 (.t 1)),
oo 5 (.ld true 8 (.t 2)),
oo 6 (.call 211 [.t 4,.t 5] 0 true),
oo 7 (.un .not (.t 6)),
oo 3 (.mv (.t 7))]) (
.ret)),[.slot 3]⟩
def Zqx:Notes:={ anns:=[],frz:=[],rgs:=[] }
def Zl6:CFn:=⟨.seq (.region false [
oo 4 (.mv (.k (.d (.b false))))]) (
.seq (.region false [
oo 5 (.mv (.t 0)),
oo 6 (.mv (.t 1)),
oo 7 (.call 240 [.t 5,.t 6] 4 true),
oo 8 (.bin .geq (.t 7) (.k (.d (.i .i64 0)))),
oo 4 (.mv (.t 8))]) (
.ret)),[.slot 4]⟩
def Zqy:Notes:={ anns:=[],frz:=[],rgs:=[] }
def Zjm:CFn:=⟨.seq (.region false [
oo 2 (.box (.t 0)),
oo 3 (.mv (.k (.d (.b false))))]) (
.seq (.region false [
oo 4 (.ld false 1 (.t 1)),
oo 5 (.ld true 2 (.t 2)),
oo 6 (.callv (.t 4) [.t 5] 4 true),
oo 7 (.un .not (.t 6)),
oo 3 (.mv (.t 7))]) (
.ret)),[.slot 3]⟩
def Zqz:Notes:={ anns:=[],frz:=[],rgs:=[] }
def Zl7:CFn:=⟨.seq (.region false [
oo 4 (.mv (.k (.d (.i .i64 0))))]) (
.seq (.seq (.region false [
oo 6 (.mv (.t 0)),
oo 7 (.len 0 (.t 6)),
oo 8 (.mv (.k (.d (.i .i64 0))))]) (
.block 0 (.loop ⟨[0,1,7,8],[],[],[],[],true⟩ (.seq (.region false [
oo 9 (.bin .lss (.t 8) (.t 7))]) (
.seq (.cond (.t 9) (
.skip) (.exit 0)) (
.seq (.block 1 (.seq (.region false [
oo 10 (.mv (.t 8)),
oo 5 (.mv (.t 10))]) (
.seq (.region false [
oo 11 (.mv (.t 1)),
oo 12 (.mv (.t 0)),
oo 13 (.mv (.t 5)),
oo 14 (.ia 1 (.t 12) (.t 13)),
oo 15 (.ld false 1 (.t 14)),
oo 16 (.callv (.t 11) [.t 15] 4 true)]) (
.cond (.t 16) (
.seq (.region false [
oo 17 (.mv (.t 5)),
oo 4 (.mv (.t 17))]) (
.ret)) (.skip))))) (
.region false [
oo 18 (.bin .add (.t 8) (.k (.d (.i .i64 1)))),
oo 8 (.mv (.t 18))]))))))) (
.seq (.region false [
oo 4 (.mv (.k (.d (.i .i64 (-1)))))]) (
.ret))),[.slot 4]⟩
def Zq0:Notes:={ anns:=[⟨[0,1,7,8],[],[],[],[],true⟩],frz:=[],rgs:=[] }
def Zl8:CFn:=⟨.seq (.region false [
oo 4 (.mv (.k (.d (.i .i64 0))))]) (
.seq (.seq (.region false [
oo 6 (.mv (.t 0)),
oo 7 (.len 0 (.t 6)),
oo 8 (.mv (.k (.d (.i .i64 0))))]) (
.block 0 (.loop ⟨[0,1,7,8],[],[],[],[],true⟩ (.seq (.region false [
oo 9 (.bin .lss (.t 8) (.t 7))]) (
.seq (.cond (.t 9) (
.skip) (.exit 0)) (
.seq (.block 1 (.seq (.region false [
oo 10 (.mv (.t 8)),
oo 5 (.mv (.t 10))]) (
.seq (.region false [
oo 11 (.mv (.t 1)),
oo 12 (.mv (.t 0)),
oo 13 (.mv (.t 5)),
oo 14 (.ia 2 (.t 12) (.t 13)),
oo 15 (.ld true 2 (.t 14)),
oo 16 (.callv (.t 11) [.t 15] 4 true)]) (
.cond (.t 16) (
.seq (.region false [
oo 17 (.mv (.t 5)),
oo 4 (.mv (.t 17))]) (
.ret)) (.skip))))) (
.region false [
oo 18 (.bin .add (.t 8) (.k (.d (.i .i64 1)))),
oo 8 (.mv (.t 18))]))))))) (
.seq (.region false [
oo 4 (.mv (.k (.d (.i .i64 (-1)))))]) (
.ret))),[.slot 4]⟩
def Zq1:Notes:={ anns:=[⟨[0,1,7,8],[],[],[],[],true⟩],frz:=[],rgs:=[] }
def z29:CFn:=⟨.seq (.region false [
oo 4 (.mv (.k (.d (.i .i64 0))))]) (
.seq (.seq (.region false [
oo 6 (.mv (.t 0)),
oo 7 (.len 0 (.t 6)),
oo 8 (.mv (.k (.d (.i .i64 0))))]) (
.block 0 (.loop ⟨[0,1,7,8],[],[],[],[],true⟩ (.seq (.region false [
oo 9 (.bin .lss (.t 8) (.t 7))]) (
.seq (.cond (.t 9) (
.skip) (.exit 0)) (
.seq (.block 1 (.seq (.region false [
oo 10 (.mv (.t 8)),
oo 5 (.mv (.t 10))]) (
.seq (.region false [
oo 11 (.mv (.t 1)),
oo 12 (.mv (.t 0)),
oo 13 (.mv (.t 5)),
oo 14 (.ia 10 (.t 12) (.t 13)),
oo 15 (.ld true 10 (.t 14)),
oo 16 (.callv (.t 11) [.t 15] 4 true)]) (
.cond (.t 16) (
.seq (.region false [
oo 17 (.mv (.t 5)),
oo 4 (.mv (.t 17))]) (
.ret)) (.skip))))) (
.region false [
oo 18 (.bin .add (.t 8) (.k (.d (.i .i64 1)))),
oo 8 (.mv (.t 18))]))))))) (
.seq (.region false [
oo 4 (.mv (.k (.d (.i .i64 (-1)))))]) (
.ret))),[.slot 4]⟩
def Zq2:Notes:={ anns:=[⟨[0,1,7,8],[],[],[],[],true⟩],frz:=[],rgs:=[] }
def zse:CFn:=⟨.seq (.region false [
oo 2 (.mv (.k (.d (.i .i64 0))))]) (
.seq (.seq (.region false [
oo 3 (.mv (.t 0))]) (
.block 0 (.seq (.seq (.region false [
oo 5 (.bin .eql (.t 3) (.k (.d (.i .i64 0)))),
oo 4 (.mv (.t 5))]) (
.cond (.t 4) (
.skip) (.seq (.region false [
oo 6 (.bin .eql (.t 3) (.k (.d (.i .i64 1)))),
oo 4 (.mv (.t 6))]) (
.cond (.t 4) (
.skip) (.seq (.region false [
oo 7 (.bin .eql (.t 3) (.k (.d (.i .i64 2)))),
oo 4 (.mv (.t 7))]) (
.cond (.t 4) (
.skip) (.seq (.region false [
oo 8 (.bin .eql (.t 3) (.k (.d (.i .i64 3)))),
oo 4 (.mv (.t 8))]) (
.cond (.t 4) (
.skip) (.seq (.region false [
oo 9 (.bin .eql (.t 3) (.k (.d (.i .i64 21)))),
oo 4 (.mv (.t 9))]) (
.cond (.t 4) (
.skip) (.region false [
oo 10 (.bin .eql (.t 3) (.k (.d (.i .i64 22)))),
oo 4 (.mv (.t 10))]))))))))))) (
.cond (.t 4) (
.seq (.region false [
oo 2 (.mv (.k (.d (.i .i64 0))))]) (
.ret)) (.seq (.seq (.region false [
oo 12 (.bin .eql (.t 3) (.k (.d (.i .i64 11)))),
oo 11 (.mv (.t 12))]) (
.cond (.t 11) (
.skip) (.region false [
oo 13 (.bin .eql (.t 3) (.k (.d (.i .i64 15)))),
oo 11 (.mv (.t 13))]))) (
.cond (.t 11) (
.seq (.region false [
oo 2 (.mv (.k (.d (.i .i64 1))))]) (
.ret)) (.seq (.seq (.region false [
oo 15 (.bin .eql (.t 3) (.k (.d (.i .i64 12)))),
oo 14 (.mv (.t 15))]) (
.cond (.t 14) (
.skip) (.region false [
oo 16 (.bin .eql (.t 3) (.k (.d (.i .i64 16)))),
oo 14 (.mv (.t 16))]))) (
.cond (.t 14) (
.seq (.region false [
oo 2 (.mv (.k (.d (.i .i64 3))))]) (
.ret)) (.seq (.region false [
oo 18 (.bin .eql (.t 3) (.k (.d (.i .i64 14)))),
oo 17 (.mv (.t 18))]) (
.cond (.t 17) (
.seq (.region false [
oo 2 (.mv (.k (.d (.i .i64 (-1)))))]) (
.ret)) (.skip))))))))))) (
.seq (.seq (.region false [
oo 19 (.mv (.t 0)),
oo 20 (.bin .gtr (.t 19) (.k (.d (.i .i64 3)))),
oo 21 (.mv (.t 20)),
⟨some 22,.mv (.t 0),(some (21,true)),0⟩,
⟨some 23,.bin .lss (.t 22) (.k (.d (.i .i64 21))),(some (21,true)),0⟩,
oo 24 (.pick (.t 21) (.t 23) (.k (.d (.b false))))]) (
.cond (.t 24) (
.seq (.region false [
oo 2 (.mv (.k (.d (.i .i64 2))))]) (
.ret)) (.skip))) (
.seq (.region false [
oo 2 (.mv (.k (.d (.i .i64 (-2)))))]) (
.ret)))),[.slot 2]⟩
def Zq3:Notes:={ anns:=[],frz:=[],rgs:=[] }
def zis:CFn:=⟨.seq (.region false [
oo 1 (.box (.t 0)),
oo 2 (.mv (.k (.d (.b false))))]) (
.seq (.seq (.region false [
oo 5 (.fa 0 (.t 1)),
oo 6 (.ld false 1 (.t 5)),
oo 7 (.bin .eql (.t 6) (.k (.d (.i .i64 0))))]) (
.cond (.t 7) (
.seq (.region false [
oo 8 (.fa 1 (.t 1)),
oo 9 (.fa 0 (.t 8)),
oo 10 (.ld false 1 (.t 9)),
oo 11 (.bin .neq (.t 10) (.k (.d (.i .i64 7)))),
oo 12 (.mv (.t 11)),
⟨some 13,.fa 1 (.t 1),(some (12,true)),0⟩,
⟨some 14,.ld true 4 (.t 13),(some (12,true)),0⟩,
⟨some 15,.call 111 [.t 14] 0 true,(some (12,true)),0⟩,
oo 16 (.pick (.t 12) (.t 15) (.k (.d (.b false)))),
oo 17 (.mv (.t 16)),
⟨some 18,.fa 5 (.t 1),(some (17,true)),0⟩,
⟨some 19,.ld false 1 (.t 18),(some (17,true)),0⟩,
⟨some 20,.bin .eql (.t 19) (.k (.d (.i .i64 0))),(some (17,true)),0⟩,
oo 21 (.pick (.t 17) (.t 20) (.k (.d (.b false)))),
oo 22 (.mv (.t 21)),
⟨some 23,.fa 6 (.t 1),(some (22,true)),0⟩,
⟨some 24,.ld false 1 (.t 23),(some (22,true)),0⟩,
⟨some 25,.bin .eql (.t 24) (.k (.d (.i .i64 0))),(some (22,true)),0⟩,
oo 26 (.pick (.t 22) (.t 25) (.k (.d (.b false)))),
oo 2 (.mv (.t 26))]) (
.ret)) (.skip))) (
.seq (.region false [
oo 3 (.mv (.k (.d (.i .i64 0)))),
oo 4 (.mv (.k (.d (.i .i64 0))))]) (
.seq (.seq (.region false [
oo 27 (.fa 0 (.t 1)),
oo 28 (.ld false 1 (.t 27))]) (
.block 0 (.seq (.region false [
oo 30 (.bin .eql (.t 28) (.k (.d (.i .i64 1)))),
oo 29 (.mv (.t 30))]) (
.cond (.t 29) (
.region false [
oo 3 (.mv (.k (.d (.i .i64 5)))),
oo 4 (.mv (.k (.d (.i .i64 7))))]) (.seq (.seq (.region false [
oo 32 (.bin .eql (.t 28) (.k (.d (.i .i64 2)))),
oo 31 (.mv (.t 32))]) (
.cond (.t 31) (
.skip) (.region false [
oo 33 (.bin .eql (.t 28) (.k (.d (.i .i64 3)))),
oo 31 (.mv (.t 33))]))) (
.cond (.t 31) (
.region false [
oo 3 (.mv (.k (.d (.i .i64 5))))]) (.skip))))))) (
.seq (.region false [
oo 34 (.fa 1 (.t 1)),
oo 35 (.ld true 4 (.t 34)),
oo 36 (.call 241 [.t 35] 0 true),
oo 37 (.mv (.t 36)),
⟨some 38,.fa 5 (.t 1),(some (37,true)),0⟩,
⟨some 39,.ld false 1 (.t 38),(some (37,true)),0⟩,
⟨some 40,.bin .geq (.t 39) (.k (.d (.i .i64 0))),(some (37,true)),0⟩,
oo 41 (.pick (.t 37) (.t 40) (.k (.d (.b false)))),
oo 42 (.mv (.t 41)),
⟨some 43,.fa 5 (.t 1),(some (42,true)),0⟩,
⟨some 44,.ld false 1 (.t 43),(some (42,true)),0⟩,
⟨some 45,.mv (.t 3),(some (42,true)),0⟩,
⟨some 46,.bin .leq (.t 44) (.t 45),(some (42,true)),0⟩,
oo 47 (.pick (.t 42) (.t 46) (.k (.d (.b false)))),
oo 48 (.mv (.t 47)),
⟨some 49,.fa 6 (.t 1),(some (48,true)),0⟩,
⟨some 50,.ld false 1 (.t 49),(some (48,true)),0⟩,
⟨some 51,.bin .geq (.t 50) (.k (.d (.i .i64 0))),(some (48,true)),0⟩,
oo 52 (.pick (.t 48) (.t 51) (.k (.d (.b false)))),
oo 53 (.mv (.t 52)),
⟨some 54,.fa 6 (.t 1),(some (53,true)),0⟩,
⟨some 55,.ld false 1 (.t 54),(some (53,true)),0⟩,
⟨some 56,.mv (.t 4),(some (53,true)),0⟩,
⟨some 57,.bin .leq (.t 55) (.t 56),(some (53,true)),0⟩,
oo 58 (.pick (.t 53) (.t 57) (.k (.d (.b false)))),
oo 2 (.mv (.t 58))]) (
.ret))))),[.slot 2]⟩
def Zq4:Notes:={ anns:=[],frz:=[],rgs:=[] }
def Zjn:CFn:=⟨.seq (.region false [
oo 2 (.box (.t 0)),
oo 3 (.mv (.k (.d (.b false))))]) (
.seq (.region false [
oo 4 (.ld true 8 (.t 2)),
oo 5 (.ld false 1 (.t 1)),
oo 6 (.bin .sub (.t 5) (.k (.d (.i .i64 1)))),
oo 7 (.call 228 [.t 4,.t 6] 0 true),
oo 8 (.un .not (.t 7)),
oo 3 (.mv (.t 8))]) (
.ret)),[.slot 3]⟩
def Zq5:Notes:={ anns:=[],frz:=[],rgs:=[] }
def Zl9:CFn:=⟨.seq (.region false [
oo 4 (.mv (.k (.d (.i .i64 0))))]) (
.seq (.seq (.region false [
oo 6 (.mv (.t 0)),
oo 7 (.len 0 (.t 6)),
oo 8 (.mv (.k (.d (.i .i64 0))))]) (
.block 0 (.loop ⟨[0,1,7,8],[],[],[],[],true⟩ (.seq (.region false [
oo 9 (.bin .lss (.t 8) (.t 7))]) (
.seq (.cond (.t 9) (
.skip) (.exit 0)) (
.seq (.block 1 (.seq (.region false [
oo 10 (.mv (.t 8)),
oo 5 (.mv (.t 10))]) (
.seq (.region false [
oo 11 (.mv (.t 1)),
oo 12 (.mv (.t 0)),
oo 13 (.mv (.t 5)),
oo 14 (.ia 8 (.t 12) (.t 13)),
oo 15 (.ld true 8 (.t 14)),
oo 16 (.callv (.t 11) [.t 15] 4 true)]) (
.cond (.t 16) (
.seq (.region false [
oo 17 (.mv (.t 5)),
oo 4 (.mv (.t 17))]) (
.ret)) (.skip))))) (
.region false [
oo 18 (.bin .add (.t 8) (.k (.d (.i .i64 1)))),
oo 8 (.mv (.t 18))]))))))) (
.seq (.region false [
oo 4 (.mv (.k (.d (.i .i64 (-1)))))]) (
.ret))),[.slot 4]⟩
def Zq6:Notes:={ anns:=[⟨[0,1,7,8],[],[],[],[],true⟩],frz:=[],rgs:=[] }
def Zma:CFn:=⟨.seq (.region false [
oo 4 (.mv (.k (.d (.i .i64 0))))]) (
.seq (.seq (.region false [
oo 6 (.mv (.t 0)),
oo 7 (.len 0 (.t 6)),
oo 8 (.mv (.k (.d (.i .i64 0))))]) (
.block 0 (.loop ⟨[0,1,7,8],[],[],[],[],true⟩ (.seq (.region false [
oo 9 (.bin .lss (.t 8) (.t 7))]) (
.seq (.cond (.t 9) (
.skip) (.exit 0)) (
.seq (.block 1 (.seq (.region false [
oo 10 (.mv (.t 8)),
oo 5 (.mv (.t 10))]) (
.seq (.region false [
oo 11 (.mv (.t 1)),
oo 12 (.mv (.t 0)),
oo 13 (.mv (.t 5)),
oo 14 (.ia 2 (.t 12) (.t 13)),
oo 15 (.ld true 2 (.t 14)),
oo 16 (.callv (.t 11) [.t 15] 4 true)]) (
.cond (.t 16) (
.seq (.region false [
oo 17 (.mv (.t 5)),
oo 4 (.mv (.t 17))]) (
.ret)) (.skip))))) (
.region false [
oo 18 (.bin .add (.t 8) (.k (.d (.i .i64 1)))),
oo 8 (.mv (.t 18))]))))))) (
.seq (.region false [
oo 4 (.mv (.k (.d (.i .i64 (-1)))))]) (
.ret))),[.slot 4]⟩
def Zq7:Notes:={ anns:=[⟨[0,1,7,8],[],[],[],[],true⟩],frz:=[],rgs:=[] }
def z9n:CFn:=⟨.seq (.region false [
oo 1 (.box (.t 0)),
oo 2 (.mv (.k (.d (.b false))))]) (
.seq (.region false [
oo 3 (.fa 0 (.t 1)),
oo 4 (.ld false 1 (.t 3)),
oo 5 (.bin .eql (.t 4) (.k (.d (.i .i64 0)))),
oo 6 (.mv (.t 5)),
⟨some 7,.fa 1 (.t 1),(some (6,true)),0⟩,
⟨some 8,.ld false 1 (.t 7),(some (6,true)),0⟩,
⟨some 9,.bin .eql (.t 8) (.k (.d (.i .i64 0))),(some (6,true)),0⟩,
oo 10 (.pick (.t 6) (.t 9) (.k (.d (.b false)))),
oo 11 (.mv (.t 10)),
⟨some 12,.fa 2 (.t 1),(some (11,true)),0⟩,
⟨some 13,.ld false 1 (.t 12),(some (11,true)),0⟩,
⟨some 14,.bin .eql (.t 13) (.k (.d (.s []))),(some (11,true)),0⟩,
oo 15 (.pick (.t 11) (.t 14) (.k (.d (.b false)))),
oo 16 (.mv (.t 15)),
⟨some 17,.fa 3 (.t 1),(some (16,true)),0⟩,
⟨some 18,.ld false 1 (.t 17),(some (16,true)),0⟩,
⟨some 19,.len 0 (.t 18),(some (16,true)),0⟩,
⟨some 20,.bin .eql (.t 19) (.k (.d (.i .i64 0))),(some (16,true)),0⟩,
oo 21 (.pick (.t 16) (.t 20) (.k (.d (.b false)))),
oo 2 (.mv (.t 21))]) (
.ret)),[.slot 2]⟩
def Zq8:Notes:={ anns:=[],frz:=[],rgs:=[] }
def Za4:CFn:=⟨.seq (.region false [
oo 1 (.box (.t 0)),
oo 2 (.mv (.k (.d (.b false))))]) (
.seq (.region false [
oo 3 (.ld true 8 (.t 1)),
oo 4 (.call 275 [.t 3,(.k (.d (.i .i64 12)))] 0 true),
oo 2 (.mv (.t 4))]) (
.ret)),[.slot 2]⟩
def Zq9:Notes:={ anns:=[],frz:=[],rgs:=[] }
def zen:CFn:=⟨.seq (.region false [
oo 2 (.box (.t 0)),
oo 4 (.mv (.k (.d (.b false))))]) (
.seq (.region false [
oo 11 (.fa 0 (.t 2)),
oo 12 (.ld false 1 (.t 11)),
oo 13 (.call 278 [.t 12] 0 true),
oo 10 (.mv (.t 13)),
oo 14 (.ext (.t 10) 0),
oo 15 (.ext (.t 10) 1),
oo 5 (.mv (.t 14)),
oo 6 (.mv (.t 15))]) (
.seq (.seq (.region false [
oo 16 (.mv (.t 6)),
oo 17 (.un .not (.t 16)),
oo 18 (.mv (.t 17)),
⟨some 19,.mv (.t 1),(some (18,false)),0⟩,
⟨some 20,.bin .lss (.t 19) (.k (.d (.i .i64 1))),(some (18,false)),0⟩,
oo 21 (.pick (.t 18) (.k (.d (.b true))) (.t 20)),
oo 22 (.mv (.t 21)),
⟨some 23,.mv (.t 5),(some (22,false)),0⟩,
⟨some 24,.bin .geq (.t 23) (.k (.d (.i .i64 0))),(some (22,false)),0⟩,
⟨some 25,.mv (.t 24),(some (22,false)),0⟩,
⟨some 26,.fa 7 (.t 2),(some (25,true)),0⟩,
⟨some 27,.ld false 1 (.t 26),(some (25,true)),0⟩,
⟨some 28,.len 0 (.t 27),(some (25,true)),0⟩,
⟨some 29,.mv (.t 5),(some (25,true)),0⟩,
⟨some 30,.bin .neq (.t 28) (.t 29),(some (25,true)),0⟩,
⟨some 31,.pick (.t 25) (.t 30) (.k (.d (.b false))),(some (22,false)),0⟩,
oo 32 (.pick (.t 22) (.k (.d (.b true))) (.t 31)),
oo 33 (.mv (.t 32)),
⟨some 34,.fa 7 (.t 2),(some (33,false)),0⟩,
⟨some 35,.ld false 1 (.t 34),(some (33,false)),0⟩,
⟨some 36,.len 0 (.t 35),(some (33,false)),0⟩,
⟨some 37,.bin .gtr (.t 36) (.k (.d (.i .i64 4))),(some (33,false)),0⟩,
oo 38 (.pick (.t 33) (.k (.d (.b true))) (.t 37))]) (
.cond (.t 38) (
.seq (.region false [
oo 4 (.mv (.k (.d (.b false))))]) (
.ret)) (.skip))) (
.seq (.seq (.region false [
oo 7 (.mv (.k (.d (.i .i64 0))))]) (
.block 0 (.loop ⟨[1,2,7],[],[],[],[],true⟩ (.seq (.seq (.region false [
oo 39 (.mv (.t 7)),
oo 40 (.fa 7 (.t 2)),
oo 41 (.ld false 1 (.t 40)),
oo 42 (.len 0 (.t 41)),
oo 43 (.bin .lss (.t 39) (.t 42))]) (
.cond (.t 43) (
.skip) (.exit 0))) (
.seq (.block 1 (.seq (.region false [
oo 46 (.fa 7 (.t 2)),
oo 47 (.ld false 1 (.t 46)),
oo 48 (.mv (.t 7)),
oo 49 (.ia 8 (.t 47) (.t 48)),
oo 50 (.ld true 8 (.t 49)),
oo 51 (.mv (.t 1)),
oo 52 (.bin .sub (.t 51) (.k (.d (.i .i64 1)))),
oo 53 (.call 275 [.t 50,.t 52] 0 true),
oo 54 (.un .not (.t 53))]) (
.cond (.t 54) (
.seq (.region false [
oo 4 (.mv (.k (.d (.b false))))]) (
.ret)) (.skip)))) (
.region false [
oo 44 (.mv (.t 7)),
oo 45 (.bin .add (.t 44) (.k (.d (.i .i64 1)))),
oo 7 (.mv (.t 45))])))))) (
.seq (.region false [
oo 55 (.fa 1 (.t 2)),
oo 56 (.fa 0 (.t 55)),
oo 57 (.ld false 1 (.t 56)),
oo 58 (.bin .eql (.t 57) (.k (.d (.i .i64 0)))),
oo 59 (.mv (.t 58)),
⟨some 60,.fa 1 (.t 2),(some (59,true)),0⟩,
⟨some 61,.fa 1 (.t 60),(some (59,true)),0⟩,
⟨some 62,.ld false 1 (.t 61),(some (59,true)),0⟩,
⟨some 63,.bin .eql (.t 62) (.k (.d (.i .i64 0))),(some (59,true)),0⟩,
oo 64 (.pick (.t 59) (.t 63) (.k (.d (.b false)))),
oo 65 (.mv (.t 64)),
⟨some 66,.fa 1 (.t 2),(some (65,true)),0⟩,
⟨some 67,.fa 2 (.t 66),(some (65,true)),0⟩,
⟨some 68,.ld false 1 (.t 67),(some (65,true)),0⟩,
⟨some 69,.bin .eql (.t 68) (.k (.d (.s []))),(some (65,true)),0⟩,
oo 70 (.pick (.t 65) (.t 69) (.k (.d (.b false)))),
oo 71 (.mv (.t 70)),
⟨some 72,.fa 1 (.t 2),(some (71,true)),0⟩,
⟨some 73,.fa 3 (.t 72),(some (71,true)),0⟩,
⟨some 74,.ld false 1 (.t 73),(some (71,true)),0⟩,
⟨some 75,.len 0 (.t 74),(some (71,true)),0⟩,
⟨some 76,.bin .eql (.t 75) (.k (.d (.i .i64 0))),(some (71,true)),0⟩,
oo 77 (.pick (.t 71) (.t 76) (.k (.d (.b false)))),
oo 8 (.mv (.t 77))]) (
.seq (.seq (.region false [
oo 78 (.fa 0 (.t 2)),
oo 79 (.ld false 1 (.t 78)),
oo 80 (.bin .eql (.t 79) (.k (.d (.i .i64 0))))]) (
.cond (.t 80) (
.region false [
oo 81 (.fa 1 (.t 2)),
oo 82 (.ld true 4 (.t 81)),
oo 83 (.call 110 [.t 82] 0 true),
oo 84 (.mv (.t 83)),
⟨some 85,.fa 1 (.t 2),(some (84,true)),0⟩,
⟨some 86,.fa 0 (.t 85),(some (84,true)),0⟩,
⟨some 87,.ld false 1 (.t 86),(some (84,true)),0⟩,
⟨some 88,.bin .neq (.t 87) (.k (.d (.i .i64 7))),(some (84,true)),0⟩,
oo 89 (.pick (.t 84) (.t 88) (.k (.d (.b false)))),
oo 8 (.mv (.t 89))]) (.skip))) (
.seq (.region false [
oo 90 (.fa 0 (.t 2)),
oo 91 (.ld false 1 (.t 90)),
oo 92 (.bin .eql (.t 91) (.k (.d (.i .i64 1)))),
oo 93 (.mv (.t 92)),
⟨some 94,.fa 0 (.t 2),(some (93,false)),0⟩,
⟨some 95,.ld false 1 (.t 94),(some (93,false)),0⟩,
⟨some 96,.bin .eql (.t 95) (.k (.d (.i .i64 2))),(some (93,false)),0⟩,
oo 97 (.pick (.t 93) (.k (.d (.b true))) (.t 96)),
oo 98 (.mv (.t 97)),
⟨some 99,.fa 0 (.t 2),(some (98,false)),0⟩,
⟨some 100,.ld false 1 (.t 99),(some (98,false)),0⟩,
⟨some 101,.bin .eql (.t 100) (.k (.d (.i .i64 3))),(some (98,false)),0⟩,
oo 102 (.pick (.t 98) (.k (.d (.b true))) (.t 101)),
oo 9 (.mv (.t 102))]) (
.seq (.region false [
oo 103 (.mv (.t 8)),
oo 104 (.mv (.t 103)),
⟨some 105,.fa 5 (.t 2),(some (104,true)),0⟩,
⟨some 106,.ld false 1 (.t 105),(some (104,true)),0⟩,
⟨some 107,.bin .geq (.t 106) (.k (.d (.i .i64 0))),(some (104,true)),0⟩,
oo 108 (.pick (.t 104) (.t 107) (.k (.d (.b false)))),
oo 109 (.mv (.t 108)),
⟨some 110,.fa 5 (.t 2),(some (109,true)),0⟩,
⟨some 111,.ld false 1 (.t 110),(some (109,true)),0⟩,
⟨some 112,.bin .leq (.t 111) (.k (.d (.i .i64 5))),(some (109,true)),0⟩,
oo 113 (.pick (.t 109) (.t 112) (.k (.d (.b false)))),
oo 114 (.mv (.t 113)),
⟨some 115,.mv (.t 9),(some (114,true)),0⟩,
⟨some 116,.mv (.t 115),(some (114,true)),0⟩,
⟨some 117,.fa 5 (.t 2),(some (116,false)),0⟩,
⟨some 118,.ld false 1 (.t 117),(some (116,false)),0⟩,
⟨some 119,.bin .eql (.t 118) (.k (.d (.i .i64 0))),(some (116,false)),0⟩,
⟨some 120,.pick (.t 116) (.k (.d (.b true))) (.t 119),(some (114,true)),0⟩,
oo 121 (.pick (.t 114) (.t 120) (.k (.d (.b false)))),
oo 122 (.mv (.t 121)),
⟨some 123,.fa 6 (.t 2),(some (122,true)),0⟩,
⟨some 124,.ld false 1 (.t 123),(some (122,true)),0⟩,
⟨some 125,.bin .geq (.t 124) (.k (.d (.i .i64 0))),(some (122,true)),0⟩,
oo 126 (.pick (.t 122) (.t 125) (.k (.d (.b false)))),
oo 127 (.mv (.t 126)),
⟨some 128,.fa 6 (.t 2),(some (127,true)),0⟩,
⟨some 129,.ld false 1 (.t 128),(some (127,true)),0⟩,
⟨some 130,.bin .lss (.t 129) (.k (.d (.i .i64 8))),(some (127,true)),0⟩,
oo 131 (.pick (.t 127) (.t 130) (.k (.d (.b false)))),
oo 132 (.mv (.t 131)),
⟨some 133,.fa 0 (.t 2),(some (132,true)),0⟩,
⟨some 134,.ld false 1 (.t 133),(some (132,true)),0⟩,
⟨some 135,.bin .eql (.t 134) (.k (.d (.i .i64 1))),(some (132,true)),0⟩,
⟨some 136,.mv (.t 135),(some (132,true)),0⟩,
⟨some 137,.fa 6 (.t 2),(some (136,false)),0⟩,
⟨some 138,.ld false 1 (.t 137),(some (136,false)),0⟩,
⟨some 139,.bin .eql (.t 138) (.k (.d (.i .i64 0))),(some (136,false)),0⟩,
⟨some 140,.pick (.t 136) (.k (.d (.b true))) (.t 139),(some (132,true)),0⟩,
oo 141 (.pick (.t 132) (.t 140) (.k (.d (.b false)))),
oo 4 (.mv (.t 141))]) (
.ret)))))))),[.slot 4]⟩
def Zra:Notes:={ anns:=[⟨[1,2,7],[],[],[],[],true⟩],frz:=[],rgs:=[] }
def zn8:CFn:=⟨.seq (.region false [
oo 2 (.mv (.k (.d (.i .i64 0)))),
oo 3 (.mv (.k (.d (.b false))))]) (
.seq (.seq (.region false [
oo 4 (.mv (.t 0))]) (
.block 0 (.seq (.seq (.region false [
oo 6 (.bin .eql (.t 4) (.k (.d (.i .i64 0)))),
oo 5 (.mv (.t 6))]) (
.cond (.t 5) (
.skip) (.seq (.region false [
oo 7 (.bin .eql (.t 4) (.k (.d (.i .i64 1)))),
oo 5 (.mv (.t 7))]) (
.cond (.t 5) (
.skip) (.seq (.region false [
oo 8 (.bin .eql (.t 4) (.k (.d (.i .i64 2)))),
oo 5 (.mv (.t 8))]) (
.cond (.t 5) (
.skip) (.seq (.region false [
oo 9 (.bin .eql (.t 4) (.k (.d (.i .i64 3)))),
oo 5 (.mv (.t 9))]) (
.cond (.t 5) (
.skip) (.seq (.region false [
oo 10 (.bin .eql (.t 4) (.k (.d (.i .i64 21)))),
oo 5 (.mv (.t 10))]) (
.cond (.t 5) (
.skip) (.region false [
oo 11 (.bin .eql (.t 4) (.k (.d (.i .i64 22)))),
oo 5 (.mv (.t 11))]))))))))))) (
.cond (.t 5) (
.seq (.region false [
oo 2 (.mv (.k (.d (.i .i64 0)))),
oo 3 (.mv (.k (.d (.b true))))]) (
.ret)) (.seq (.seq (.region false [
oo 13 (.bin .eql (.t 4) (.k (.d (.i .i64 11)))),
oo 12 (.mv (.t 13))]) (
.cond (.t 12) (
.skip) (.region false [
oo 14 (.bin .eql (.t 4) (.k (.d (.i .i64 15)))),
oo 12 (.mv (.t 14))]))) (
.cond (.t 12) (
.seq (.region false [
oo 2 (.mv (.k (.d (.i .i64 1)))),
oo 3 (.mv (.k (.d (.b true))))]) (
.ret)) (.seq (.seq (.region false [
oo 16 (.bin .eql (.t 4) (.k (.d (.i .i64 12)))),
oo 15 (.mv (.t 16))]) (
.cond (.t 15) (
.skip) (.region false [
oo 17 (.bin .eql (.t 4) (.k (.d (.i .i64 16)))),
oo 15 (.mv (.t 17))]))) (
.cond (.t 15) (
.seq (.region false [
oo 2 (.mv (.k (.d (.i .i64 3)))),
oo 3 (.mv (.k (.d (.b true))))]) (
.ret)) (.seq (.region false [
oo 19 (.bin .eql (.t 4) (.k (.d (.i .i64 14)))),
oo 18 (.mv (.t 19))]) (
.cond (.t 18) (
.seq (.region false [
oo 2 (.mv (.k (.d (.i .i64 (-1))))),
oo 3 (.mv (.k (.d (.b true))))]) (
.ret)) (.skip))))))))))) (
.seq (.region false [
oo 20 (.mv (.t 0)),
oo 21 (.bin .gtr (.t 20) (.k (.d (.i .i64 0)))),
oo 22 (.mv (.t 21)),
⟨some 23,.mv (.t 0),(some (22,true)),0⟩,
⟨some 24,.bin .leq (.t 23) (.k (.d (.i .i64 22))),(some (22,true)),0⟩,
oo 25 (.pick (.t 22) (.t 24) (.k (.d (.b false)))),
oo 2 (.mv (.k (.d (.i .i64 2)))),
oo 3 (.mv (.t 25))]) (
.ret))),[.slot 2,.slot 3]⟩
def Zrb:Notes:={ anns:=[],frz:=[],rgs:=[] }
def zh5:CFn:=⟨.seq (.region false [
oo 1 (.box (.t 0)),
oo 2 (.mv (.k (.d (.b false))))]) (
.seq (.seq (.region false [
oo 11 (.fa 0 (.t 1)),
oo 12 (.ld false 1 (.t 11)),
oo 13 (.len 0 (.t 12)),
oo 14 (.bin .lss (.t 13) (.k (.d (.i .i64 1)))),
oo 15 (.mv (.t 14)),
⟨some 16,.fa 0 (.t 1),(some (15,false)),0⟩,
⟨some 17,.ld false 1 (.t 16),(some (15,false)),0⟩,
⟨some 18,.len 0 (.t 17),(some (15,false)),0⟩,
⟨some 19,.bin .gtr (.t 18) (.k (.d (.i .i64 8))),(some (15,false)),0⟩,
oo 20 (.pick (.t 15) (.k (.d (.b true))) (.t 19)),
oo 21 (.mv (.t 20)),
⟨some 22,.fa 1 (.t 1),(some (21,false)),0⟩,
⟨some 23,.ld false 1 (.t 22),(some (21,false)),0⟩,
⟨some 24,.len 0 (.t 23),(some (21,false)),0⟩,
⟨some 25,.bin .lss (.t 24) (.k (.d (.i .i64 1))),(some (21,false)),0⟩,
oo 26 (.pick (.t 21) (.k (.d (.b true))) (.t 25)),
oo 27 (.mv (.t 26)),
⟨some 28,.fa 1 (.t 1),(some (27,false)),0⟩,
⟨some 29,.ld false 1 (.t 28),(some (27,false)),0⟩,
⟨some 30,.len 0 (.t 29),(some (27,false)),0⟩,
⟨some 31,.bin .gtr (.t 30) (.k (.d (.i .i64 8))),(some (27,false)),0⟩,
oo 32 (.pick (.t 27) (.k (.d (.b true))) (.t 31)),
oo 33 (.mv (.t 32)),
⟨some 34,.fa 2 (.t 1),(some (33,false)),0⟩,
⟨some 35,.ld false 1 (.t 34),(some (33,false)),0⟩,
⟨some 36,.len 0 (.t 35),(some (33,false)),0⟩,
⟨some 37,.bin .lss (.t 36) (.k (.d (.i .i64 1))),(some (33,false)),0⟩,
oo 38 (.pick (.t 33) (.k (.d (.b true))) (.t 37)),
oo 39 (.mv (.t 38)),
⟨some 40,.fa 2 (.t 1),(some (39,false)),0⟩,
⟨some 41,.ld false 1 (.t 40),(some (39,false)),0⟩,
⟨some 42,.len 0 (.t 41),(some (39,false)),0⟩,
⟨some 43,.bin .gtr (.t 42) (.k (.d (.i .i64 16))),(some (39,false)),0⟩,
oo 44 (.pick (.t 39) (.k (.d (.b true))) (.t 43))]) (
.cond (.t 44) (
.seq (.region false [
oo 2 (.mv (.k (.d (.b false))))]) (
.ret)) (.skip))) (
.seq (.region false [
oo 3 (.mv (.k (.nil 1)))]) (
.seq (.seq (.region false [
oo 4 (.mv (.k (.d (.i .i64 0))))]) (
.block 0 (.loop ⟨[1,3,4],[3],[],[],[],true⟩ (.seq (.seq (.region false [
oo 45 (.mv (.t 4)),
oo 46 (.fa 0 (.t 1)),
oo 47 (.ld false 1 (.t 46)),
oo 48 (.len 0 (.t 47)),
oo 49 (.bin .lss (.t 45) (.t 48))]) (
.cond (.t 49) (
.skip) (.exit 0))) (
.seq (.block 1 (.region false [
oo 52 (.mv (.t 3)),
oo 53 (.fa 0 (.t 1)),
oo 54 (.ld false 1 (.t 53)),
oo 55 (.mv (.t 4)),
oo 56 (.ia 3 (.t 54) (.t 55)),
oo 57 (.fa 0 (.t 56)),
oo 58 (.ld false 1 (.t 57)),
oo 59 (.bsl 1 1 [(.s [])] [(0,.t 58)]),
oo 60 (.app 1 16 (.t 52) (.t 59)),
oo 3 (.mv (.t 60))])) (
.region false [
oo 50 (.mv (.t 4)),
oo 51 (.bin .add (.t 50) (.k (.d (.i .i64 1)))),
oo 4 (.mv (.t 51))])))))) (
.seq (.seq (.region false [
oo 5 (.mv (.k (.d (.i .i64 0))))]) (
.block 2 (.loop ⟨[1,3,5],[3],[],[],[],true⟩ (.seq (.seq (.region false [
oo 61 (.mv (.t 5)),
oo 62 (.fa 1 (.t 1)),
oo 63 (.ld false 1 (.t 62)),
oo 64 (.len 0 (.t 63)),
oo 65 (.bin .lss (.t 61) (.t 64))]) (
.cond (.t 65) (
.skip) (.exit 2))) (
.seq (.block 3 (.seq (.region false [
oo 68 (.mv (.t 3)),
oo 69 (.fa 1 (.t 1)),
oo 70 (.ld false 1 (.t 69)),
oo 71 (.mv (.t 5)),
oo 72 (.ia 3 (.t 70) (.t 71)),
oo 73 (.fa 0 (.t 72)),
oo 74 (.ld false 1 (.t 73)),
oo 75 (.bsl 1 1 [(.s [])] [(0,.t 74)]),
oo 76 (.app 1 16 (.t 68) (.t 75)),
oo 3 (.mv (.t 76))]) (
.seq (.region true [
oo 77 (.bsl 1 0 [(.s [])] []),
oo 78 (.fa 1 (.t 1)),
⟨some 79,.ld false 1 (.t 78),none,2⟩,
oo 80 (.mv (.t 5)),
⟨some 81,.ia 3 (.t 79) (.t 80),none,14⟩,
⟨some 82,.fa 1 (.t 81),none,30⟩,
⟨some 83,.ld false 1 (.t 82),none,62⟩,
⟨some 84,.app 1 16 (.t 77) (.t 83),none,127⟩,
oo 85 (.fa 1 (.t 1)),
⟨some 86,.ld false 1 (.t 85),none,256⟩,
oo 87 (.mv (.t 5)),
⟨some 88,.ia 3 (.t 86) (.t 87),none,1792⟩,
⟨some 89,.fa 2 (.t 88),none,3840⟩,
⟨some 90,.ld false 1 (.t 89),none,7936⟩,
⟨some 91,.app 1 16 (.t 84) (.t 90),none,16383⟩,
⟨some 6,.mv (.t 91),none,32767⟩]) (
.seq (.region false [
oo 92 (.mv (.t 6)),
oo 93 (.len 0 (.t 92)),
oo 94 (.bin .gtr (.t 93) (.k (.d (.i .i64 4)))),
oo 95 (.mv (.t 94)),
⟨some 96,.mv (.t 6),(some (95,false)),0⟩,
⟨some 97,.call 412 [.t 96] 0 true,(some (95,false)),0⟩,
⟨some 98,.un .not (.t 97),(some (95,false)),0⟩,
oo 99 (.pick (.t 95) (.k (.d (.b true))) (.t 98))]) (
.cond (.t 99) (
.seq (.region false [
oo 2 (.mv (.k (.d (.b false))))]) (
.ret)) (.skip)))))) (
.region false [
oo 66 (.mv (.t 5)),
oo 67 (.bin .add (.t 66) (.k (.d (.i .i64 1)))),
oo 5 (.mv (.t 67))])))))) (
.seq (.seq (.region false [
oo 7 (.mv (.k (.d (.i .i64 0))))]) (
.block 4 (.loop ⟨[1,3,7],[],[],[],[],true⟩ (.seq (.seq (.region false [
oo 100 (.mv (.t 7)),
oo 101 (.fa 2 (.t 1)),
oo 102 (.ld false 1 (.t 101)),
oo 103 (.len 0 (.t 102)),
oo 104 (.bin .lss (.t 100) (.t 103))]) (
.cond (.t 104) (
.skip) (.exit 4))) (
.seq (.block 5 (.seq (.region false [
oo 107 (.fa 2 (.t 1)),
oo 108 (.ld false 1 (.t 107)),
oo 109 (.mv (.t 7)),
oo 110 (.ia 3 (.t 108) (.t 109)),
oo 111 (.ld true 3 (.t 110)),
oo 8 (.zero (.agg [(.d (.i .i64 0)),(.nil 2),(.nil 10)])),
⟨none,.st 3 (.t 8) (.t 111),none,0⟩]) (
.seq (.seq (.region false [
oo 112 (.fa 0 (.t 8)),
oo 113 (.ld false 1 (.t 112)),
oo 114 (.bin .lss (.t 113) (.k (.d (.i .i64 0)))),
oo 115 (.mv (.t 114)),
⟨some 116,.fa 0 (.t 8),(some (115,false)),0⟩,
⟨some 117,.ld false 1 (.t 116),(some (115,false)),0⟩,
⟨some 118,.fa 1 (.t 1),(some (115,false)),0⟩,
⟨some 119,.ld false 1 (.t 118),(some (115,false)),0⟩,
⟨some 120,.len 0 (.t 119),(some (115,false)),0⟩,
⟨some 121,.bin .geq (.t 117) (.t 120),(some (115,false)),0⟩,
oo 122 (.pick (.t 115) (.k (.d (.b true))) (.t 121)),
oo 123 (.mv (.t 122)),
⟨some 124,.fa 1 (.t 8),(some (123,false)),0⟩,
⟨some 125,.ld false 1 (.t 124),(some (123,false)),0⟩,
⟨some 126,.len 0 (.t 125),(some (123,false)),0⟩,
⟨some 127,.bin .gtr (.t 126) (.k (.d (.i .i64 5))),(some (123,false)),0⟩,
oo 128 (.pick (.t 123) (.k (.d (.b true))) (.t 127))]) (
.cond (.t 128) (
.seq (.region false [
oo 2 (.mv (.k (.d (.b false))))]) (
.ret)) (.skip))) (
.seq (.region false [
oo 9 (.mv (.k (.d (.i .i64 0))))]) (
.block 6 (.loop ⟨[1,3,7,8,9],[],[],[],[],true⟩ (.seq (.seq (.region false [
oo 129 (.mv (.t 9)),
oo 130 (.fa 1 (.t 8)),
oo 131 (.ld false 1 (.t 130)),
oo 132 (.len 0 (.t 131)),
oo 133 (.bin .lss (.t 129) (.t 132))]) (
.cond (.t 133) (
.skip) (.exit 6))) (
.seq (.block 7 (.seq (.region false [
oo 136 (.fa 1 (.t 8)),
oo 137 (.ld false 1 (.t 136)),
oo 138 (.mv (.t 9)),
oo 139 (.ia 2 (.t 137) (.t 138)),
oo 140 (.ld true 2 (.t 139)),
oo 10 (.zero (.agg [(.d (.b false)),(.d (.i .i64 0))])),
⟨none,.st 2 (.t 10) (.t 140),none,0⟩]) (
.seq (.region false [
oo 141 (.fa 1 (.t 10)),
oo 142 (.ld false 1 (.t 141)),
oo 143 (.bin .lss (.t 142) (.k (.d (.i .i64 0)))),
oo 144 (.mv (.t 143)),
⟨some 145,.fa 0 (.t 10),(some (144,false)),0⟩,
⟨some 146,.ld false 1 (.t 145),(some (144,false)),0⟩,
⟨some 147,.mv (.t 146),(some (144,false)),0⟩,
⟨some 148,.fa 1 (.t 10),(some (147,true)),0⟩,
⟨some 149,.ld false 1 (.t 148),(some (147,true)),0⟩,
⟨some 150,.fa 0 (.t 1),(some (147,true)),0⟩,
⟨some 151,.ld false 1 (.t 150),(some (147,true)),0⟩,
⟨some 152,.len 0 (.t 151),(some (147,true)),0⟩,
⟨some 153,.bin .geq (.t 149) (.t 152),(some (147,true)),0⟩,
⟨some 154,.mv (.t 153),(some (147,true)),0⟩,
⟨some 155,.fa 0 (.t 1),(some (154,false)),0⟩,
⟨some 156,.ld false 1 (.t 155),(some (154,false)),0⟩,
⟨some 157,.fa 1 (.t 10),(some (154,false)),0⟩,
⟨some 158,.ld false 1 (.t 157),(some (154,false)),0⟩,
⟨some 159,.ia 3 (.t 156) (.t 158),(some (154,false)),0⟩,
⟨some 160,.fa 2 (.t 159),(some (154,false)),0⟩,
⟨some 161,.ld false 1 (.t 160),(some (154,false)),0⟩,
⟨some 162,.pick (.t 154) (.k (.d (.b true))) (.t 161),(some (147,true)),0⟩,
⟨some 163,.pick (.t 147) (.t 162) (.k (.d (.b false))),(some (144,false)),0⟩,
oo 164 (.pick (.t 144) (.k (.d (.b true))) (.t 163)),
oo 165 (.mv (.t 164)),
⟨some 166,.fa 0 (.t 10),(some (165,false)),0⟩,
⟨some 167,.ld false 1 (.t 166),(some (165,false)),0⟩,
⟨some 168,.un .not (.t 167),(some (165,false)),0⟩,
⟨some 169,.mv (.t 168),(some (165,false)),0⟩,
⟨some 170,.fa 1 (.t 10),(some (169,true)),0⟩,
⟨some 171,.ld false 1 (.t 170),(some (169,true)),0⟩,
⟨some 172,.fa 1 (.t 1),(some (169,true)),0⟩,
⟨some 173,.ld false 1 (.t 172),(some (169,true)),0⟩,
⟨some 174,.len 0 (.t 173),(some (169,true)),0⟩,
⟨some 175,.bin .geq (.t 171) (.t 174),(some (169,true)),0⟩,
⟨some 176,.pick (.t 169) (.t 175) (.k (.d (.b false))),(some (165,false)),0⟩,
oo 177 (.pick (.t 165) (.k (.d (.b true))) (.t 176))]) (
.cond (.t 177) (
.seq (.region false [
oo 2 (.mv (.k (.d (.b false))))]) (
.ret)) (.skip))))) (
.region false [
oo 134 (.mv (.t 9)),
oo 135 (.bin .add (.t 134) (.k (.d (.i .i64 1)))),
oo 9 (.mv (.t 135))]))))))))) (
.region false [
oo 105 (.mv (.t 7)),
oo 106 (.bin .add (.t 105) (.k (.d (.i .i64 1)))),
oo 7 (.mv (.t 106))])))))) (
.seq (.region false [
oo 178 (.mv (.t 3)),
oo 179 (.call 412 [.t 178] 0 true),
oo 2 (.mv (.t 179))]) (
.ret))))))),[.slot 2]⟩
def Zrc:Notes:={ anns:=[⟨[1,3,4],[3],[],[],[],true⟩,⟨[1,3,5],[3],[],[],[],true⟩,⟨[1,3,7],[],[],[],[],true⟩,⟨[1,3,7,8,9],[],[],[],[],true⟩],frz:=[],rgs:=[] }
def zl0:CFn:=⟨.seq (.region false [
oo 1 (.box (.t 0)),
oo 2 (.mv (.k (.d (.b false))))]) (
.seq (.seq (.region false [
oo 17 (.ld true 3 (.t 1)),
oo 18 (.call 393 [.t 17] 0 true),
oo 19 (.un .not (.t 18)),
oo 20 (.mv (.t 19)),
⟨some 21,.fa 1 (.t 1),(some (20,false)),0⟩,
⟨some 22,.ld false 1 (.t 21),(some (20,false)),0⟩,
⟨some 23,.ia 3 (.t 22) (.k (.d (.i .i64 0))),(some (20,false)),0⟩,
⟨some 24,.fa 1 (.t 23),(some (20,false)),0⟩,
⟨some 25,.ld false 1 (.t 24),(some (20,false)),0⟩,
⟨some 26,.len 0 (.t 25),(some (20,false)),0⟩,
⟨some 27,.bin .gtr (.t 26) (.k (.d (.i .i64 0))),(some (20,false)),0⟩,
oo 28 (.pick (.t 20) (.k (.d (.b true))) (.t 27))]) (
.cond (.t 28) (
.seq (.region false [
oo 2 (.mv (.k (.d (.b false))))]) (
.ret)) (.skip))) (
.seq (.seq (.region false [
oo 3 (.mv (.k (.d (.i .i64 0))))]) (
.block 0 (.loop ⟨[1,3],[],[],[],[],true⟩ (.seq (.seq (.region false [
oo 29 (.mv (.t 3)),
oo 30 (.fa 2 (.t 1)),
oo 31 (.ld false 1 (.t 30)),
oo 32 (.len 0 (.t 31)),
oo 33 (.bin .lss (.t 29) (.t 32))]) (
.cond (.t 33) (
.skip) (.exit 0))) (
.seq (.block 1 (.seq (.region false [
oo 36 (.fa 2 (.t 1)),
oo 37 (.ld false 1 (.t 36)),
oo 38 (.mv (.t 3)),
oo 39 (.ia 3 (.t 37) (.t 38)),
oo 40 (.ld true 3 (.t 39)),
oo 4 (.zero (.agg [(.d (.i .i64 0)),(.nil 2),(.nil 10)])),
⟨none,.st 3 (.t 4) (.t 40),none,0⟩]) (
.seq (.region false [
oo 5 (.mv (.k (.d (.i .i64 0))))]) (
.seq (.seq (.region false [
oo 6 (.mv (.k (.d (.i .i64 0))))]) (
.block 2 (.loop ⟨[1,3,4,5,6],[],[],[],[],true⟩ (.seq (.seq (.region false [
oo 41 (.mv (.t 6)),
oo 42 (.fa 1 (.t 4)),
oo 43 (.ld false 1 (.t 42)),
oo 44 (.len 0 (.t 43)),
oo 45 (.bin .leq (.t 41) (.t 44))]) (
.cond (.t 45) (
.skip) (.exit 2))) (
.seq (.block 3 (.seq (.region false [
oo 49 (.ld true 3 (.t 1)),
oo 50 (.ld true 3 (.t 4)),
oo 51 (.mv (.t 6)),
oo 52 (.call 418 [.t 49,.t 50,.t 51] 0 true),
oo 48 (.mv (.t 52)),
oo 53 (.ext (.t 48) 0),
oo 54 (.ext (.t 48) 1),
oo 7 (.mv (.t 53)),
oo 8 (.mv (.t 54))]) (
.seq (.region false [
oo 9 (.mv (.k (.d (.i .i64 0))))]) (
.block 4 (.loop ⟨[1,3,4,5,6,7,8,9],[],[],[],[],true⟩ (.seq (.seq (.region false [
oo 55 (.mv (.t 8)),
oo 56 (.mv (.t 55)),
⟨some 57,.mv (.t 9),(some (56,true)),0⟩,
⟨some 58,.ld true 3 (.t 1),(some (56,true)),0⟩,
⟨some 59,.mv (.t 7),(some (56,true)),0⟩,
⟨some 60,.call 173 [.t 58,.t 59] 0 true,(some (56,true)),0⟩,
⟨some 61,.bin .lss (.t 57) (.t 60),(some (56,true)),0⟩,
oo 62 (.pick (.t 56) (.t 61) (.k (.d (.b false))))]) (
.cond (.t 62) (
.skip) (.exit 4))) (
.seq (.block 5 (.seq (.region false [
oo 66 (.ld true 3 (.t 1)),
oo 67 (.ld true 3 (.t 4)),
oo 68 (.mv (.t 6)),
oo 69 (.mv (.t 9)),
oo 70 (.call 419 [.t 66,.t 67,.t 68,.t 69] 0 true),
oo 65 (.mv (.t 70)),
oo 71 (.ext (.t 65) 0),
oo 72 (.ext (.t 65) 1),
oo 10 (.mv (.t 71)),
oo 11 (.mv (.t 72))]) (
.seq (.region false [
oo 73 (.mv (.t 10))]) (
.cond (.t 73) (
.region false [
oo 74 (.mv (.t 5)),
oo 75 (.bin .add (.t 74) (.k (.d (.i .i64 1)))),
oo 5 (.mv (.t 75))]) (.skip))))) (
.region false [
oo 63 (.mv (.t 9)),
oo 64 (.bin .add (.t 63) (.k (.d (.i .i64 1)))),
oo 9 (.mv (.t 64))])))))))) (
.region false [
oo 46 (.mv (.t 6)),
oo 47 (.bin .add (.t 46) (.k (.d (.i .i64 1)))),
oo 6 (.mv (.t 47))])))))) (
.seq (.seq (.region false [
oo 76 (.mv (.t 5)),
oo 77 (.fa 2 (.t 4)),
oo 78 (.ld false 1 (.t 77)),
oo 79 (.len 0 (.t 78)),
oo 80 (.bin .neq (.t 76) (.t 79))]) (
.cond (.t 80) (
.seq (.region false [
oo 2 (.mv (.k (.d (.b false))))]) (
.ret)) (.skip))) (
.seq (.region false [
oo 12 (.mv (.k (.d (.i .i64 0))))]) (
.block 6 (.loop ⟨[1,3,4,12],[],[],[],[],true⟩ (.seq (.seq (.region false [
oo 81 (.mv (.t 12)),
oo 82 (.fa 2 (.t 4)),
oo 83 (.ld false 1 (.t 82)),
oo 84 (.len 0 (.t 83)),
oo 85 (.bin .lss (.t 81) (.t 84))]) (
.cond (.t 85) (
.skip) (.exit 6))) (
.seq (.block 7 (.seq (.region false [
oo 88 (.fa 2 (.t 4)),
oo 89 (.ld false 1 (.t 88)),
oo 90 (.mv (.t 12)),
oo 91 (.ia 10 (.t 89) (.t 90)),
oo 92 (.ld true 10 (.t 91)),
oo 13 (.zero (.agg [(.d (.i .i64 0)),(.d (.i .i64 0)),(.d (.i .i64 0)),(.d (.i .i64 0)),(.d (.i .i64 0)),(.d (.s [])),(.nil 4),(.d (.i .i64 0)),(.d (.i .i64 0)),(.nil 8)])),
⟨none,.st 10 (.t 13) (.t 92),none,0⟩]) (
.seq (.region false [
oo 94 (.ld true 3 (.t 1)),
oo 95 (.ld true 3 (.t 4)),
oo 96 (.fa 0 (.t 13)),
oo 97 (.ld false 1 (.t 96)),
oo 98 (.fa 1 (.t 13)),
oo 99 (.ld false 1 (.t 98)),
oo 100 (.call 419 [.t 94,.t 95,.t 97,.t 99] 0 true),
oo 93 (.mv (.t 100)),
oo 101 (.ext (.t 93) 0),
oo 102 (.ext (.t 93) 1),
oo 14 (.mv (.t 101)),
oo 15 (.mv (.t 102))]) (
.seq (.seq (.region false [
oo 103 (.mv (.t 14)),
oo 104 (.un .not (.t 103)),
oo 105 (.mv (.t 104)),
⟨some 106,.fa 2 (.t 13),(some (105,false)),0⟩,
⟨some 107,.ld true 8 (.t 106),(some (105,false)),0⟩,
⟨some 108,.call 268 [.t 107] 0 true,(some (105,false)),0⟩,
⟨some 109,.un .not (.t 108),(some (105,false)),0⟩,
oo 110 (.pick (.t 105) (.k (.d (.b true))) (.t 109)),
oo 111 (.mv (.t 110)),
⟨some 112,.ld true 3 (.t 1),(some (111,false)),0⟩,
⟨some 113,.ld true 3 (.t 4),(some (111,false)),0⟩,
⟨some 114,.fa 2 (.t 13),(some (111,false)),0⟩,
⟨some 115,.ld true 8 (.t 114),(some (111,false)),0⟩,
⟨some 116,.call 420 [.t 112,.t 113,.t 115] 0 true,(some (111,false)),0⟩,
⟨some 117,.un .not (.t 116),(some (111,false)),0⟩,
oo 118 (.pick (.t 111) (.k (.d (.b true))) (.t 117))]) (
.cond (.t 118) (
.seq (.region false [
oo 2 (.mv (.k (.d (.b false))))]) (
.ret)) (.skip))) (
.seq (.region false [
oo 16 (.mv (.k (.d (.i .i64 0))))]) (
.block 8 (.loop ⟨[1,3,4,12,13,16],[],[],[],[],true⟩ (.seq (.seq (.region false [
oo 119 (.mv (.t 16)),
oo 120 (.mv (.t 12)),
oo 121 (.bin .lss (.t 119) (.t 120))]) (
.cond (.t 121) (
.skip) (.exit 8))) (
.seq (.block 9 (.seq (.region true [
oo 124 (.fa 2 (.t 4)),
⟨some 125,.ld false 1 (.t 124),none,1⟩,
oo 126 (.mv (.t 16)),
⟨some 127,.ia 10 (.t 125) (.t 126),none,7⟩,
⟨some 128,.fa 0 (.t 127),none,15⟩,
⟨some 129,.ld false 1 (.t 128),none,31⟩,
oo 130 (.fa 0 (.t 13)),
⟨some 131,.ld false 1 (.t 130),none,64⟩,
⟨some 132,.bin .eql (.t 129) (.t 131),none,255⟩,
⟨some 133,.mv (.t 132),none,511⟩,
⟨some 134,.fa 2 (.t 4),(some (133,true)),1023⟩,
⟨some 135,.ld false 1 (.t 134),(some (133,true)),2047⟩,
⟨some 136,.mv (.t 16),(some (133,true)),1023⟩,
⟨some 137,.ia 10 (.t 135) (.t 136),(some (133,true)),8191⟩,
⟨some 138,.fa 1 (.t 137),(some (133,true)),16383⟩,
⟨some 139,.ld false 1 (.t 138),(some (133,true)),32767⟩,
⟨some 140,.fa 1 (.t 13),(some (133,true)),1023⟩,
⟨some 141,.ld false 1 (.t 140),(some (133,true)),66559⟩,
⟨some 142,.bin .eql (.t 139) (.t 141),(some (133,true)),262143⟩,
⟨some 143,.pick (.t 133) (.t 142) (.k (.d (.b false))),none,524287⟩]) (
.cond (.t 143) (
.seq (.region false [
oo 2 (.mv (.k (.d (.b false))))]) (
.ret)) (.skip)))) (
.region false [
oo 122 (.mv (.t 16)),
oo 123 (.bin .add (.t 122) (.k (.d (.i .i64 1)))),
oo 16 (.mv (.t 123))])))))))))) (
.region false [
oo 86 (.mv (.t 12)),
oo 87 (.bin .add (.t 86) (.k (.d (.i .i64 1)))),
oo 12 (.mv (.t 87))]))))))))))) (
.region false [
oo 34 (.mv (.t 3)),
oo 35 (.bin .add (.t 34) (.k (.d (.i .i64 1)))),
oo 3 (.mv (.t 35))])))))) (
.seq (.region false [
oo 2 (.mv (.k (.d (.b true))))]) (
.ret)))),[.slot 2]⟩
def Zrd:Notes:={ anns:=[⟨[1,3],[],[],[],[],true⟩,⟨[1,3,4,5,6],[],[],[],[],true⟩,⟨[1,3,4,5,6,7,8,9],[],[],[],[],true⟩,⟨[1,3,4,12],[],[],[],[],true⟩,⟨[1,3,4,12,13,16],[],[],[],[],true⟩],frz:=[],rgs:=[] }
def zsf:CFn:=⟨.seq (.region false [
oo 2 (.mv (.k (.nil 2)))]) (
.seq (.region false [
oo 3 (.mv (.k (.nil 2)))]) (
.seq (.seq (.region false [
oo 4 (.mv (.k (.d (.i .i64 0))))]) (
.block 0 (.loop ⟨[0,3,4],[3],[],[],[],true⟩ (.seq (.seq (.region false [
oo 7 (.mv (.t 4)),
oo 8 (.mv (.t 0)),
oo 9 (.len 0 (.t 8)),
oo 10 (.bin .lss (.t 7) (.t 9))]) (
.cond (.t 10) (
.skip) (.exit 0))) (
.seq (.block 1 (.seq (.region false [
oo 5 (.mv (.k (.d (.b false))))]) (
.seq (.seq (.region false [
oo 6 (.mv (.k (.d (.i .i64 0))))]) (
.block 2 (.loop ⟨[0,3,4,5,6],[],[],[],[],true⟩ (.seq (.seq (.region false [
oo 13 (.mv (.t 6)),
oo 14 (.mv (.t 3)),
oo 15 (.len 0 (.t 14)),
oo 16 (.bin .lss (.t 13) (.t 15))]) (
.cond (.t 16) (
.skip) (.exit 2))) (
.seq (.block 3 (.region true [
oo 19 (.mv (.t 5)),
⟨some 20,.mv (.t 19),none,1⟩,
⟨some 21,.mv (.t 3),(some (20,false)),3⟩,
⟨some 22,.mv (.t 6),(some (20,false)),3⟩,
⟨some 23,.ia 2 (.t 21) (.t 22),(some (20,false)),15⟩,
⟨some 24,.ld true 2 (.t 23),(some (20,false)),31⟩,
⟨some 25,.mv (.t 0),(some (20,false)),3⟩,
⟨some 26,.mv (.t 4),(some (20,false)),3⟩,
⟨some 27,.ia 2 (.t 25) (.t 26),(some (20,false)),195⟩,
⟨some 28,.ld true 2 (.t 27),(some (20,false)),451⟩,
⟨some 29,.eqa [.i,.i] false (.t 24) (.t 28),(some (20,false)),1023⟩,
⟨some 30,.pick (.t 20) (.k (.d (.b true))) (.t 29),none,2047⟩,
⟨some 5,.mv (.t 30),none,4095⟩])) (
.region false [
oo 17 (.mv (.t 6)),
oo 18 (.bin .add (.t 17) (.k (.d (.i .i64 1)))),
oo 6 (.mv (.t 18))])))))) (
.seq (.region false [
oo 31 (.mv (.t 5)),
oo 32 (.un .not (.t 31))]) (
.cond (.t 32) (
.region false [
oo 33 (.mv (.t 3)),
oo 34 (.mv (.t 0)),
oo 35 (.mv (.t 4)),
oo 36 (.ia 2 (.t 34) (.t 35)),
oo 37 (.ld true 2 (.t 36)),
oo 38 (.bsl 2 1 [(.i .i64 0),(.i .i64 0)] [(0,.t 37)]),
oo 39 (.app 2 16 (.t 33) (.t 38)),
oo 3 (.mv (.t 39))]) (.skip)))))) (
.region false [
oo 11 (.mv (.t 4)),
oo 12 (.bin .add (.t 11) (.k (.d (.i .i64 1)))),
oo 4 (.mv (.t 12))])))))) (
.seq (.region false [
oo 40 (.mv (.t 3)),
oo 2 (.mv (.t 40))]) (
.ret)))),[.slot 2]⟩
def Zre:Notes:={ anns:=[⟨[0,3,4],[3],[],[],[],true⟩,⟨[0,3,4,5,6],[],[],[],[],true⟩],frz:=[],rgs:=[] }
def zxx:CFn:=⟨.seq (.region false [
oo 2 (.mv (.k (.d (.b false))))]) (
.seq (.seq (.region false [
oo 3 (.mv (.k (.d (.i .i64 0))))]) (
.block 0 (.loop ⟨[0,3],[],[],[],[],true⟩ (.seq (.seq (.region false [
oo 5 (.mv (.t 3)),
oo 6 (.mv (.t 0)),
oo 7 (.len 0 (.t 6)),
oo 8 (.bin .lss (.t 5) (.t 7))]) (
.cond (.t 8) (
.skip) (.exit 0))) (
.seq (.block 1 (.seq (.seq (.region false [
oo 4 (.mv (.k (.d (.i .i64 0))))]) (
.block 2 (.loop ⟨[0,3,4],[],[],[],[],true⟩ (.seq (.seq (.region false [
oo 11 (.mv (.t 4)),
oo 12 (.mv (.t 3)),
oo 13 (.bin .lss (.t 11) (.t 12))]) (
.cond (.t 13) (
.skip) (.exit 2))) (
.seq (.block 3 (.seq (.region true [
oo 16 (.mv (.t 0)),
oo 17 (.mv (.t 3)),
⟨some 18,.ia 1 (.t 16) (.t 17),none,3⟩,
⟨some 19,.ld false 1 (.t 18),none,7⟩,
oo 20 (.mv (.t 0)),
oo 21 (.mv (.t 4)),
⟨some 22,.ia 1 (.t 20) (.t 21),none,48⟩,
⟨some 23,.ld false 1 (.t 22),none,112⟩,
⟨some 24,.bin .eql (.t 19) (.t 23),none,255⟩]) (
.cond (.t 24) (
.seq (.region false [
oo 2 (.mv (.k (.d (.b false))))]) (
.ret)) (.skip)))) (
.region false [
oo 14 (.mv (.t 4)),
oo 15 (.bin .add (.t 14) (.k (.d (.i .i64 1)))),
oo 4 (.mv (.t 15))])))))) (
.seq (.region false [
oo 25 (.mv (.t 0)),
oo 26 (.mv (.t 3)),
oo 27 (.ia 1 (.t 25) (.t 26)),
oo 28 (.ld false 1 (.t 27)),
oo 29 (.call 429 [.t 28] 0 true),
oo 30 (.un .not (.t 29))]) (
.cond (.t 30) (
.seq (.region false [
oo 2 (.mv (.k (.d (.b false))))]) (
.ret)) (.skip))))) (
.region false [
oo 9 (.mv (.t 3)),
oo 10 (.bin .add (.t 9) (.k (.d (.i .i64 1)))),
oo 3 (.mv (.t 10))])))))) (
.seq (.region false [
oo 2 (.mv (.k (.d (.b true))))]) (
.ret))),[.slot 2]⟩
def Zrf:Notes:={ anns:=[⟨[0,3],[],[],[],[],true⟩,⟨[0,3,4],[],[],[],[],true⟩],frz:=[],rgs:=[] }
def z7b:CFn:=⟨.seq (.region false [
oo 3 (.box (.t 0)),
oo 4 (.box (.t 1)),
oo 6 (.mv (.k (.d (.i .i64 0)))),
oo 7 (.mv (.k (.d (.b false))))]) (
.seq (.seq (.region false [
oo 8 (.mv (.t 2)),
oo 9 (.bin .eql (.t 8) (.k (.d (.i .i64 0))))]) (
.cond (.t 9) (
.seq (.region false [
oo 10 (.fa 0 (.t 4)),
oo 11 (.ld false 1 (.t 10)),
oo 6 (.mv (.t 11)),
oo 7 (.mv (.k (.d (.b true))))]) (
.ret)) (.skip))) (
.seq (.seq (.region false [
oo 12 (.mv (.t 2)),
oo 13 (.bin .lss (.t 12) (.k (.d (.i .i64 1)))),
oo 14 (.mv (.t 13)),
⟨some 15,.mv (.t 2),(some (14,false)),0⟩,
⟨some 16,.fa 1 (.t 4),(some (14,false)),0⟩,
⟨some 17,.ld false 1 (.t 16),(some (14,false)),0⟩,
⟨some 18,.len 0 (.t 17),(some (14,false)),0⟩,
⟨some 19,.bin .gtr (.t 15) (.t 18),(some (14,false)),0⟩,
oo 20 (.pick (.t 14) (.k (.d (.b true))) (.t 19)),
oo 21 (.mv (.t 20)),
⟨some 22,.fa 1 (.t 4),(some (21,false)),0⟩,
⟨some 23,.ld false 1 (.t 22),(some (21,false)),0⟩,
⟨some 24,.mv (.t 2),(some (21,false)),0⟩,
⟨some 25,.bin .sub (.t 24) (.k (.d (.i .i64 1))),(some (21,false)),0⟩,
⟨some 26,.ia 2 (.t 23) (.t 25),(some (21,false)),0⟩,
⟨some 27,.fa 0 (.t 26),(some (21,false)),0⟩,
⟨some 28,.ld false 1 (.t 27),(some (21,false)),0⟩,
oo 29 (.pick (.t 21) (.k (.d (.b true))) (.t 28))]) (
.cond (.t 29) (
.seq (.region false [
oo 6 (.mv (.k (.d (.i .i64 0)))),
oo 7 (.mv (.k (.d (.b false))))]) (
.ret)) (.skip))) (
.seq (.region false [
oo 30 (.fa 1 (.t 4)),
oo 31 (.ld false 1 (.t 30)),
oo 32 (.mv (.t 2)),
oo 33 (.bin .sub (.t 32) (.k (.d (.i .i64 1)))),
oo 34 (.ia 2 (.t 31) (.t 33)),
oo 35 (.fa 1 (.t 34)),
oo 36 (.ld false 1 (.t 35)),
oo 6 (.mv (.t 36)),
oo 7 (.mv (.k (.d (.b true))))]) (
.ret)))),[.slot 6,.slot 7]⟩
def Zrg:Notes:={ anns:=[],frz:=[],rgs:=[] }
def z7c:CFn:=⟨.seq (.region false [
oo 4 (.box (.t 0)),
oo 5 (.box (.t 1)),
oo 8 (.mv (.k (.d (.b false)))),
oo 9 (.mv (.k (.d (.b false))))]) (
.seq (.region false [
oo 14 (.ld true 3 (.t 4)),
oo 15 (.ld true 3 (.t 5)),
oo 16 (.mv (.t 2)),
oo 17 (.call 418 [.t 14,.t 15,.t 16] 0 true),
oo 13 (.mv (.t 17)),
oo 18 (.ext (.t 13) 0),
oo 19 (.ext (.t 13) 1),
oo 10 (.mv (.t 18)),
oo 11 (.mv (.t 19))]) (
.seq (.seq (.region false [
oo 20 (.mv (.t 11)),
oo 21 (.un .not (.t 20)),
oo 22 (.mv (.t 21)),
⟨some 23,.mv (.t 3),(some (22,false)),0⟩,
⟨some 24,.bin .lss (.t 23) (.k (.d (.i .i64 0))),(some (22,false)),0⟩,
oo 25 (.pick (.t 22) (.k (.d (.b true))) (.t 24)),
oo 26 (.mv (.t 25)),
⟨some 27,.mv (.t 3),(some (26,false)),0⟩,
⟨some 28,.ld true 3 (.t 4),(some (26,false)),0⟩,
⟨some 29,.mv (.t 10),(some (26,false)),0⟩,
⟨some 30,.call 173 [.t 28,.t 29] 0 true,(some (26,false)),0⟩,
⟨some 31,.bin .geq (.t 27) (.t 30),(some (26,false)),0⟩,
oo 32 (.pick (.t 26) (.k (.d (.b true))) (.t 31))]) (
.cond (.t 32) (
.seq (.region false [
oo 8 (.mv (.k (.d (.b false)))),
oo 9 (.mv (.k (.d (.b false))))]) (
.ret)) (.skip))) (
.seq (.region false [
oo 33 (.ld true 3 (.t 4)),
oo 34 (.mv (.t 10)),
oo 35 (.mv (.t 3)),
oo 36 (.call 174 [.t 33,.t 34,.t 35] 0 true),
oo 12 (.mv (.t 36))]) (
.seq (.region false [
oo 37 (.mv (.t 2)),
oo 38 (.bin .eql (.t 37) (.k (.d (.i .i64 0)))),
oo 39 (.mv (.t 12)),
oo 40 (.eqb true (.t 38) (.t 39)),
oo 41 (.mv (.t 2)),
oo 42 (.bin .eql (.t 41) (.k (.d (.i .i64 0)))),
oo 43 (.mv (.t 12)),
oo 44 (.eqb false (.t 42) (.t 43)),
oo 8 (.mv (.t 40)),
oo 9 (.mv (.t 44))]) (
.ret))))),[.slot 8,.slot 9]⟩
def Zrh:Notes:={ anns:=[],frz:=[],rgs:=[] }
def zuh:CFn:=⟨.seq (.region false [
oo 3 (.box (.t 0)),
oo 4 (.box (.t 1)),
oo 5 (.box (.t 2)),
oo 6 (.mv (.k (.d (.b false))))]) (
.seq (.seq (.region false [
oo 10 (.fa 0 (.t 5)),
oo 11 (.ld false 1 (.t 10))]) (
.block 0 (.seq (.region false [
oo 13 (.bin .eql (.t 11) (.k (.d (.i .i64 1)))),
oo 12 (.mv (.t 13))]) (
.cond (.t 12) (
.seq (.region false [
oo 15 (.ld true 3 (.t 3)),
oo 16 (.ld true 3 (.t 4)),
oo 17 (.fa 5 (.t 5)),
oo 18 (.ld false 1 (.t 17)),
oo 19 (.fa 6 (.t 5)),
oo 20 (.ld false 1 (.t 19)),
oo 21 (.call 419 [.t 15,.t 16,.t 18,.t 20] 0 true),
oo 14 (.mv (.t 21)),
oo 22 (.ext (.t 14) 0),
oo 23 (.ext (.t 14) 1),
oo 7 (.mv (.t 22)),
oo 8 (.mv (.t 23))]) (
.seq (.region false [
oo 24 (.mv (.t 8)),
oo 6 (.mv (.t 24))]) (
.ret))) (.seq (.seq (.region false [
oo 26 (.bin .eql (.t 11) (.k (.d (.i .i64 2)))),
oo 25 (.mv (.t 26))]) (
.cond (.t 25) (
.skip) (.region false [
oo 27 (.bin .eql (.t 11) (.k (.d (.i .i64 3)))),
oo 25 (.mv (.t 27))]))) (
.cond (.t 25) (
.seq (.region false [
oo 28 (.fa 5 (.t 5)),
oo 29 (.ld false 1 (.t 28)),
oo 30 (.bin .geq (.t 29) (.k (.d (.i .i64 1)))),
oo 31 (.mv (.t 30)),
⟨some 32,.fa 5 (.t 5),(some (31,true)),0⟩,
⟨some 33,.ld false 1 (.t 32),(some (31,true)),0⟩,
⟨some 34,.fa 1 (.t 4),(some (31,true)),0⟩,
⟨some 35,.ld false 1 (.t 34),(some (31,true)),0⟩,
⟨some 36,.len 0 (.t 35),(some (31,true)),0⟩,
⟨some 37,.bin .leq (.t 33) (.t 36),(some (31,true)),0⟩,
oo 38 (.pick (.t 31) (.t 37) (.k (.d (.b false)))),
oo 39 (.mv (.t 38)),
⟨some 40,.fa 1 (.t 4),(some (39,true)),0⟩,
⟨some 41,.ld false 1 (.t 40),(some (39,true)),0⟩,
⟨some 42,.fa 5 (.t 5),(some (39,true)),0⟩,
⟨some 43,.ld false 1 (.t 42),(some (39,true)),0⟩,
⟨some 44,.bin .sub (.t 43) (.k (.d (.i .i64 1))),(some (39,true)),0⟩,
⟨some 45,.ia 2 (.t 41) (.t 44),(some (39,true)),0⟩,
⟨some 46,.fa 0 (.t 45),(some (39,true)),0⟩,
⟨some 47,.ld false 1 (.t 46),(some (39,true)),0⟩,
oo 48 (.pick (.t 39) (.t 47) (.k (.d (.b false)))),
oo 6 (.mv (.t 48))]) (
.ret)) (.skip))))))) (
.seq (.seq (.region false [
oo 9 (.mv (.k (.d (.i .i64 0))))]) (
.block 1 (.loop ⟨[3,4,5,9],[],[],[],[],true⟩ (.seq (.seq (.region false [
oo 49 (.mv (.t 9)),
oo 50 (.fa 7 (.t 5)),
oo 51 (.ld false 1 (.t 50)),
oo 52 (.len 0 (.t 51)),
oo 53 (.bin .lss (.t 49) (.t 52))]) (
.cond (.t 53) (
.skip) (.exit 1))) (
.seq (.block 2 (.seq (.region true [
oo 56 (.ld true 3 (.t 3)),
oo 57 (.ld true 3 (.t 4)),
oo 58 (.fa 7 (.t 5)),
⟨some 59,.ld false 1 (.t 58),none,4⟩,
oo 60 (.mv (.t 9)),
⟨some 61,.ia 8 (.t 59) (.t 60),none,28⟩,
⟨some 62,.ld true 8 (.t 61),none,60⟩,
⟨some 63,.call 420 [.t 56,.t 57,.t 62] 0 true,none,127⟩,
⟨some 64,.un .not (.t 63),none,255⟩]) (
.cond (.t 64) (
.seq (.region false [
oo 6 (.mv (.k (.d (.b false))))]) (
.ret)) (.skip)))) (
.region false [
oo 54 (.mv (.t 9)),
oo 55 (.bin .add (.t 54) (.k (.d (.i .i64 1)))),
oo 9 (.mv (.t 55))])))))) (
.seq (.region false [
oo 6 (.mv (.k (.d (.b true))))]) (
.ret)))),[.slot 6]⟩
def Zri:Notes:={ anns:=[⟨[3,4,5,9],[],[],[],[],true⟩],frz:=[],rgs:=[] }
def zre:CFn:=⟨.seq (.region false [
oo 2 (.mv (.k (.d (.b false))))]) (
.seq (.seq (.region false [
oo 3 (.mv (.k (.d (.i .i64 0))))]) (
.block 0 (.loop ⟨[0,3],[],[],[],[],true⟩ (.seq (.seq (.region false [
oo 5 (.mv (.t 3)),
oo 6 (.mv (.t 0)),
oo 7 (.len 1 (.t 6)),
oo 8 (.bin .lss (.t 5) (.t 7))]) (
.cond (.t 8) (
.skip) (.exit 0))) (
.seq (.block 1 (.seq (.region false [
oo 11 (.mv (.t 0)),
oo 12 (.mv (.t 3)),
oo 13 (.ixs (.t 11) (.t 12)),
oo 14 (.bin .geq (.t 13) (.k (.d (.i .u8 97)))),
oo 15 (.mv (.t 14)),
⟨some 16,.mv (.t 0),(some (15,true)),0⟩,
⟨some 17,.mv (.t 3),(some (15,true)),0⟩,
⟨some 18,.ixs (.t 16) (.t 17),(some (15,true)),0⟩,
⟨some 19,.bin .leq (.t 18) (.k (.d (.i .u8 122))),(some (15,true)),0⟩,
oo 20 (.pick (.t 15) (.t 19) (.k (.d (.b false)))),
oo 4 (.mv (.t 20))]) (
.seq (.region false [
oo 21 (.mv (.t 4)),
oo 22 (.un .not (.t 21)),
oo 23 (.mv (.t 22)),
⟨some 24,.mv (.t 3),(some (23,true)),0⟩,
⟨some 25,.bin .eql (.t 24) (.k (.d (.i .i64 0))),(some (23,true)),0⟩,
⟨some 26,.mv (.t 25),(some (23,true)),0⟩,
⟨some 27,.mv (.t 0),(some (26,false)),0⟩,
⟨some 28,.mv (.t 3),(some (26,false)),0⟩,
⟨some 29,.ixs (.t 27) (.t 28),(some (26,false)),0⟩,
⟨some 30,.bin .lss (.t 29) (.k (.d (.i .u8 48))),(some (26,false)),0⟩,
⟨some 31,.pick (.t 26) (.k (.d (.b true))) (.t 30),(some (23,true)),0⟩,
⟨some 32,.mv (.t 31),(some (23,true)),0⟩,
⟨some 33,.mv (.t 0),(some (32,false)),0⟩,
⟨some 34,.mv (.t 3),(some (32,false)),0⟩,
⟨some 35,.ixs (.t 33) (.t 34),(some (32,false)),0⟩,
⟨some 36,.bin .gtr (.t 35) (.k (.d (.i .u8 57))),(some (32,false)),0⟩,
⟨some 37,.pick (.t 32) (.k (.d (.b true))) (.t 36),(some (23,true)),0⟩,
oo 38 (.pick (.t 23) (.t 37) (.k (.d (.b false))))]) (
.cond (.t 38) (
.seq (.region false [
oo 2 (.mv (.k (.d (.b false))))]) (
.ret)) (.skip))))) (
.region false [
oo 9 (.mv (.t 3)),
oo 10 (.bin .add (.t 9) (.k (.d (.i .i64 1)))),
oo 3 (.mv (.t 10))])))))) (
.seq (.region false [
oo 39 (.mv (.t 0)),
oo 40 (.len 1 (.t 39)),
oo 41 (.bin .geq (.t 40) (.k (.d (.i .i64 1)))),
oo 42 (.mv (.t 41)),
⟨some 43,.mv (.t 0),(some (42,true)),0⟩,
⟨some 44,.len 1 (.t 43),(some (42,true)),0⟩,
⟨some 45,.bin .leq (.t 44) (.k (.d (.i .i64 8))),(some (42,true)),0⟩,
oo 46 (.pick (.t 42) (.t 45) (.k (.d (.b false)))),
oo 2 (.mv (.t 46))]) (
.ret))),[.slot 2]⟩
def Zrj:Notes:={ anns:=[⟨[0,3],[],[],[],[],true⟩],frz:=[],rgs:=[] }
def zrf:CFn:=⟨.seq (.region false [
oo 2 (.box (.t 0)),
oo 4 (.mv (.k (.nil 4)))]) (
.seq (.seq (.region false [
oo 10 (.mv (.t 1)),
oo 11 (.bin .lss (.t 10) (.k (.d (.i .i64 0)))),
oo 12 (.mv (.t 11)),
⟨some 13,.mv (.t 1),(some (12,false)),0⟩,
⟨some 14,.fa 2 (.t 2),(some (12,false)),0⟩,
⟨some 15,.ld false 1 (.t 14),(some (12,false)),0⟩,
⟨some 16,.len 0 (.t 15),(some (12,false)),0⟩,
⟨some 17,.bin .geq (.t 13) (.t 16),(some (12,false)),0⟩,
oo 18 (.pick (.t 12) (.k (.d (.b true))) (.t 17)),
oo 19 (.mv (.t 18)),
⟨some 20,.ld true 3 (.t 2),(some (19,false)),0⟩,
⟨some 21,.call 402 [.t 20] 0 true,(some (19,false)),0⟩,
⟨some 22,.un .not (.t 21),(some (19,false)),0⟩,
oo 23 (.pick (.t 19) (.k (.d (.b true))) (.t 22))]) (
.cond (.t 23) (
.seq (.region false [
oo 4 (.mv (.k (.nil 4)))]) (
.ret)) (.skip))) (
.seq (.region false [
oo 5 (.mv (.k (.nil 4)))]) (
.seq (.seq (.region false [
oo 6 (.mv (.k (.d (.i .i64 0))))]) (
.block 0 (.loop ⟨[1,2,5,6],[5],[],[],[],true⟩ (.seq (.seq (.region false [
oo 24 (.mv (.t 6)),
oo 25 (.fa 2 (.t 2)),
oo 26 (.ld false 1 (.t 25)),
oo 27 (.mv (.t 1)),
oo 28 (.ia 3 (.t 26) (.t 27)),
oo 29 (.fa 2 (.t 28)),
oo 30 (.ld false 1 (.t 29)),
oo 31 (.len 0 (.t 30)),
oo 32 (.bin .lss (.t 24) (.t 31))]) (
.cond (.t 32) (
.skip) (.exit 0))) (
.seq (.block 1 (.seq (.region false [
oo 35 (.fa 2 (.t 2)),
oo 36 (.ld false 1 (.t 35)),
oo 37 (.mv (.t 1)),
oo 38 (.ia 3 (.t 36) (.t 37)),
oo 39 (.fa 2 (.t 38)),
oo 40 (.ld false 1 (.t 39)),
oo 41 (.mv (.t 6)),
oo 42 (.ia 10 (.t 40) (.t 41)),
oo 43 (.ld true 10 (.t 42)),
oo 7 (.zero (.agg [(.d (.i .i64 0)),(.d (.i .i64 0)),(.d (.i .i64 0)),(.d (.i .i64 0)),(.d (.i .i64 0)),(.d (.s [])),(.nil 4),(.d (.i .i64 0)),(.d (.i .i64 0)),(.nil 8)])),
⟨none,.st 10 (.t 7) (.t 43),none,0⟩]) (
.seq (.region false [
oo 44 (.fa 2 (.t 7)),
oo 45 (.ld true 8 (.t 44)),
oo 46 (.call 175 [.t 45] 0 true),
oo 47 (.call 411 [.t 46] 0 true),
oo 8 (.mv (.t 47))]) (
.seq (.region false [
oo 9 (.mv (.k (.d (.i .i64 0))))]) (
.block 2 (.loop ⟨[1,2,5,6,7,8,9],[5],[],[],[],true⟩ (.seq (.seq (.region false [
oo 48 (.mv (.t 9)),
oo 49 (.mv (.t 8)),
oo 50 (.len 0 (.t 49)),
oo 51 (.bin .lss (.t 48) (.t 50))]) (
.cond (.t 51) (
.skip) (.exit 2))) (
.seq (.block 3 (.region true [
oo 54 (.mv (.t 5)),
oo 55 (.mv (.t 8)),
oo 56 (.mv (.t 9)),
⟨some 57,.ia 2 (.t 55) (.t 56),none,6⟩,
⟨some 58,.ld true 2 (.t 57),none,14⟩,
oo 59 (.fa 0 (.t 7)),
⟨some 60,.ld false 1 (.t 59),none,32⟩,
oo 61 (.fa 1 (.t 7)),
⟨some 62,.ld false 1 (.t 61),none,128⟩,
⟨some 63,.build [(.d (.i .i64 0)),(.d (.i .i64 0))] [(0,1,.t 60),(1,1,.t 62)],none,480⟩,
⟨some 64,.build [(.d (.i .i64 0)),(.d (.i .i64 0)),(.d (.i .i64 0)),(.d (.i .i64 0))] [(0,2,.t 58),(2,2,.t 63)],none,1022⟩,
⟨some 65,.bsl 4 1 [(.i .i64 0),(.i .i64 0),(.i .i64 0),(.i .i64 0)] [(0,.t 64)],none,2046⟩,
⟨some 66,.app 4 32 (.t 54) (.t 65),none,4095⟩,
⟨some 5,.mv (.t 66),none,8191⟩])) (
.region false [
oo 52 (.mv (.t 9)),
oo 53 (.bin .add (.t 52) (.k (.d (.i .i64 1)))),
oo 9 (.mv (.t 53))]))))))))) (
.region false [
oo 33 (.mv (.t 6)),
oo 34 (.bin .add (.t 33) (.k (.d (.i .i64 1)))),
oo 6 (.mv (.t 34))])))))) (
.seq (.region false [
oo 67 (.mv (.t 5)),
oo 4 (.mv (.t 67))]) (
.ret))))),[.slot 4]⟩
def Zrk:Notes:={ anns:=[⟨[1,2,5,6],[5],[],[],[],true⟩,⟨[1,2,5,6,7,8,9],[5],[],[],[],true⟩],frz:=[],rgs:=[] }
def zv2:CFn:=⟨.seq (.region false [
oo 6 (.mv (.k (.d (.b false))))]) (
.seq (.seq (.region false [
oo 14 (.call 171 [] 0 true),
oo 15 (.un .not (.t 14))]) (
.cond (.t 15) (
.seq (.region false [
oo 6 (.mv (.k (.d (.b false))))]) (
.ret)) (.skip))) (
.seq (.seq (.region false [
oo 16 (.mv (.t 0)),
oo 17 (.len 0 (.t 16)),
oo 18 (.bin .gtr (.t 17) (.k (.d (.i .i64 200))))]) (
.cond (.t 18) (
.seq (.region false [
oo 6 (.mv (.k (.d (.b true))))]) (
.ret)) (.skip))) (
.seq (.region false [
oo 19 (.mv (.t 0)),
oo 20 (.call 108 [.t 19] 4 true),
oo 21 (.call 168 [.t 20] 4 true),
oo 22 (.mv (.t 1)),
oo 23 (.conv .i64 (.t 22)),
oo 24 (.call 170 [.t 23] 0 true),
oo 25 (.build [(.nil 3),(.nil 3),(.nil 3)] []),
oo 26 (.bsl 3 3 [(.l 3 []),(.l 3 []),(.l 3 [])] [(0,.t 21),(1,.t 24),(2,.t 25)]),
oo 7 (.mv (.t 26))]) (
.seq (.seq (.region false [
oo 8 (.mv (.k (.d (.i .i64 0))))]) (
.block 0 (.loop ⟨[2,7,8],[],[],[],[],true⟩ (.seq (.seq (.region false [
oo 27 (.mv (.t 8)),
oo 28 (.bin .lss (.t 27) (.k (.d (.i .i64 3))))]) (
.cond (.t 28) (
.skip) (.exit 0))) (
.seq (.block 1 (.seq (.region false [
oo 9 (.mv (.k (.d (.i .i64 (-1)))))]) (
.block 2 (.loop ⟨[2,7,8,9],[],[],[],[],true⟩ (.seq (.seq (.region false [
oo 31 (.mv (.t 9)),
oo 32 (.mv (.t 7)),
oo 33 (.mv (.t 8)),
oo 34 (.ia 3 (.t 32) (.t 33)),
oo 35 (.fa 2 (.t 34)),
oo 36 (.ld false 1 (.t 35)),
oo 37 (.len 0 (.t 36)),
oo 38 (.bin .add (.t 37) (.k (.d (.i .i64 1)))),
oo 39 (.bin .lss (.t 31) (.t 38))]) (
.cond (.t 39) (
.skip) (.exit 2))) (
.seq (.block 3 (.seq (.region false [
oo 42 (.mv (.t 9)),
oo 10 (.mv (.t 42))]) (
.seq (.seq (.region false [
oo 43 (.mv (.t 9)),
oo 44 (.bin .lss (.t 43) (.k (.d (.i .i64 0))))]) (
.cond (.t 44) (
.region false [
oo 45 (.mv (.t 2)),
oo 10 (.mv (.t 45))]) (.skip))) (
.seq (.region true [
oo 46 (.mv (.t 7)),
oo 47 (.mv (.t 8)),
⟨some 48,.ia 3 (.t 46) (.t 47),none,3⟩,
⟨some 49,.ld true 3 (.t 48),none,7⟩,
oo 50 (.mv (.t 10)),
⟨some 51,.call 172 [.t 49,.t 50] 0 true,none,31⟩,
oo 52 (.mv (.t 7)),
oo 53 (.mv (.t 8)),
⟨some 54,.ia 3 (.t 52) (.t 53),none,192⟩,
⟨some 55,.ld true 3 (.t 54),none,448⟩,
oo 56 (.mv (.t 10)),
⟨some 57,.call 666 [.t 55,.t 56] 0 true,none,2047⟩,
⟨some 11,.mv (.t 51),none,4095⟩,
⟨some 12,.mv (.t 57),none,8191⟩]) (
.seq (.seq (.region false [
oo 58 (.mv (.t 11)),
oo 59 (.len 0 (.t 58)),
oo 60 (.mv (.t 12)),
oo 61 (.len 0 (.t 60)),
oo 62 (.bin .neq (.t 59) (.t 61))]) (
.cond (.t 62) (
.seq (.region false [
oo 6 (.mv (.k (.d (.b false))))]) (
.ret)) (.skip))) (
.seq (.region false [
oo 13 (.mv (.k (.d (.i .i64 0))))]) (
.block 4 (.loop ⟨[2,7,8,9,11,12,13],[],[],[],[],true⟩ (.seq (.seq (.region false [
oo 63 (.mv (.t 13)),
oo 64 (.mv (.t 12)),
oo 65 (.len 0 (.t 64)),
oo 66 (.bin .lss (.t 63) (.t 65))]) (
.cond (.t 66) (
.skip) (.exit 4))) (
.seq (.block 5 (.seq (.region true [
oo 69 (.mv (.t 11)),
oo 70 (.mv (.t 13)),
⟨some 71,.ia 4 (.t 69) (.t 70),none,3⟩,
⟨some 72,.ld true 4 (.t 71),none,7⟩,
oo 73 (.mv (.t 12)),
oo 74 (.mv (.t 13)),
⟨some 75,.ia 4 (.t 73) (.t 74),none,48⟩,
⟨some 76,.ld true 4 (.t 75),none,112⟩,
⟨some 77,.eqa [.i,.i,.i,.i] true (.t 72) (.t 76),none,255⟩]) (
.cond (.t 77) (
.seq (.region false [
oo 6 (.mv (.k (.d (.b false))))]) (
.ret)) (.skip)))) (
.region false [
oo 67 (.mv (.t 13)),
oo 68 (.bin .add (.t 67) (.k (.d (.i .i64 1)))),
oo 13 (.mv (.t 68))]))))))))))) (
.region false [
oo 40 (.mv (.t 9)),
oo 41 (.bin .add (.t 40) (.k (.d (.i .i64 1)))),
oo 9 (.mv (.t 41))]))))))) (
.region false [
oo 29 (.mv (.t 8)),
oo 30 (.bin .add (.t 29) (.k (.d (.i .i64 1)))),
oo 8 (.mv (.t 30))])))))) (
.seq (.region false [
oo 6 (.mv (.k (.d (.b true))))]) (
.ret)))))),[.slot 6]⟩
def Zrl:Notes:={ anns:=[⟨[2,7,8],[],[],[],[],true⟩,⟨[2,7,8,9],[],[],[],[],true⟩,⟨[2,7,8,9,11,12,13],[],[],[],[],true⟩],frz:=[],rgs:=[] }
end Ab
