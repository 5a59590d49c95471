/-
 Rows that are looked through: slices.IndexFunc, slices.ContainsFunc, whatever their elements' size.
-/
import Derived.Test.YthmlhnbjbbfklaaDoorPack4
import Derived.IntWalk
import Derived.Test.YthmlhnbjbbfklaaDoorPack3
import Derived.Test.YthmlhnbjbbfklaaDoorPack5
set_option linter.unusedSimpArgs false
set_option linter.unusedVariables false
set_option linter.unusedSectionVars false
set_option linter.unnecessarySimpa false
set_option maxRecDepth 100000
set_option maxHeartbeats 4000000
namespace Ab
open Go
theorem i64w {n : Int} (h1 : -9223372036854775808 ≤ n) (h2 : n ≤ 9223372036854775807) : IntKind.i64.wrap n = n := Go.IntWalk.i64_in n ⟨h1, h2⟩
theorem evY :
  (∀ (a b c d e : V) (r : List V), takeV (a :: b :: c :: d :: e :: r) 0 5 = some [a, b, c, d, e]) ∧
  (∀ (a b c d e f : V) (r : List V), takeV (a :: b :: c :: d :: e :: f :: r) 0 6 = some [a, b, c, d, e, f]) ∧
  (∀ (a b c d e f g : V) (r : List V), takeV (a :: b :: c :: d :: e :: f :: g :: r) 0 7 = some [a, b, c, d, e, f, g]) ∧
  (∀ (a b c d e f g h : V) (r : List V), takeV (a :: b :: c :: d :: e :: f :: g :: h :: r) 0 8 = some [a, b, c, d, e, f, g, h]) ∧
  (∀ (a b c d e f g h i : V) (r : List V), takeV (a :: b :: c :: d :: e :: f :: g :: h :: i :: r) 0 9 = some [a, b, c, d, e, f, g, h, i]) ∧
  (∀ (a b c d e f g h i j : V) (r : List V), takeV (a :: b :: c :: d :: e :: f :: g :: h :: i :: j :: r) 0 10 = some [a, b, c, d, e, f, g, h, i, j]) ∧
  (∀ (a b c d e f g h i j k : V) (r : List V), takeV (a :: b :: c :: d :: e :: f :: g :: h :: i :: j :: k :: r) 0 11 = some [a, b, c, d, e, f, g, h, i, j, k]) ∧
  (∀ (a b c d e f g h i j k l : V) (r : List V), takeV (a :: b :: c :: d :: e :: f :: g :: h :: i :: j :: k :: l :: r) 0 12 = some [a, b, c, d, e, f, g, h, i, j, k, l]) := by
 refine ⟨?_, ?_, ?_, ?_, ?_, ?_, ?_, ?_⟩ <;> intros <;> simp [takeV]
@[reducible] def oo (d : Nat) (c : Cop) : CO := ⟨some d, c, none, 0⟩
theorem oo_eq (d : Nat) (c : Cop) : oo d c = ⟨some d, c, none, 0⟩ := rfl
theorem far_eq : far = 4096 := rfl
set_option linter.defProp false in
def evPl := And.intro @List.getD_cons_zero.{0} (And.intro @List.getD_cons_succ.{0} (And.intro @Bool.or_self (And.intro @Bool.or_false (And.intro @Bool.false_or (And.intro @Bool.or_true (And.intro @Bool.true_or (And.intro @Bool.and_true (And.intro @Bool.true_and (And.intro @Bool.and_self (And.intro @Bool.and_false (And.intro @Bool.false_and (And.intro @Bool.not_false (And.intro @Bool.not_true (And.intro Qm (And.intro not_true_eq_false (And.intro not_false_eq_true (And.intro @true_and (And.intro @Qk (And.intro @Int.cast_ofNat_Int far_eq)))))))))))))))))))
set_option linter.defProp false in
def evAll := And.intro oo_eq (And.intro evPl (And.intro evY (And.intro evQ (And.intro evK (And.intro evG (And.intro evW (And.intro evX (And.intro evM (And.intro evN (And.intro evC (And.intro evR evH)))))))))))
section
variable {E : Nat → Option Fn} {α : Type}
end
open Go
@[reducible] def ki (n : Int) : A := .k (.d (.i .i64 n))
@[reducible] def om (d t : Nat) : CO := ⟨some d, .mv (.t t), none, 0⟩
@[reducible] def ol (d : Nat) (b : Bool) (n t : Nat) : CO := ⟨some d, .ld b n (.t t), none, 0⟩
@[reducible] def og (d : Nat) (c : Cop) (g : Nat) : CO := ⟨some d, c, some (g, true), 0⟩
@[reducible] def oh (d : Nat) (c : Cop) (g : Nat) : CO := ⟨some d, c, some (g, false), 0⟩
@[reducible] def ow (d : Nat) (c : Cop) (p : Nat) : CO := ⟨some d, c, none, p⟩
@[reducible] def oz (c : Cop) (p : Nat) : CO := ⟨none, c, none, p⟩
@[reducible] def sq (l : List CO) (c : CCode) : CCode := .seq (.region false l) c
@[reducible] def zE : List V := [.d (.i .i64 0), .d (.i .i64 0), .d (.i .i64 0), .d (.s []), .nil 4, .d (.i .i64 0), .d (.i .i64 0), .nil 8]
@[reducible] def zV : List V := [.d (.i .i64 0), .d (.i .i64 0), .d (.s []), .nil 4]
@[reducible] def kb (b : Bool) : A := .k (.d (.b b))
@[reducible] def fa (n t : Nat) : Cop := .fa n (.t t)
@[reducible] def ct (t : Nat) (a b : CCode) : CCode := .cond (.t t) a b
@[reducible] def ob (d : Nat) (o : BinOp) (x y : A) : CO := ⟨some d, .bin o x y, none, 0⟩
def c444 : CFn := ⟨sq ([
oo 4 (.mv (kb false))]) (
.seq (sq ([
oo 17 (.call 446 [] 0 true),
oo 18 (.un .not (.t 17))]) (
ct 18 (
sq ([
oo 4 (.mv (kb false))]) (
.ret)) (.skip))) (
.seq (sq ([
om 19 0,
oo 20 (.len 0 (.t 19)),
ob 21 .gtr (.t 20) (ki 40),
om 22 21,
oh 23 (.mv (.t 1)) 22,
oh 24 (.len 0 (.t 23)) 22,
oh 25 (.bin .gtr (.t 24) (ki 5)) 22,
oo 26 (.pick (.t 22) (kb true) (.t 25))]) (
ct 26 (
sq ([
oo 4 (.mv (kb true))]) (
.ret)) (.skip))) (
sq ([
oo 5 (.mv (.k (.d (.s []))))]) (
sq ([
oo 6 (.mv (.k (.nil 4)))]) (
.seq (sq ([
oo 7 (.mv (ki 0))]) (
.block 0 (.loop ⟨[0, 1, 5, 6, 7], [6], [], [], [], true⟩ (.seq (sq ([
om 27 7,
om 28 0,
oo 29 (.len 0 (.t 28)),
ob 30 .lss (.t 27) (.t 29)]) (
ct 30 (
.skip) (.exit 0))) (
.seq (.block 1 (sq ([
om 33 5,
oo 34 (.len 1 (.t 33)),
oo 35 (.build [(.d (.i .i64 0)), (.d (.s [])), (.d (.i .i64 0)), (.d (.i .i64 0))] [(3, 1, .t 34)]),
oo 8 (.zero (.agg [(.d (.i .i64 0)), (.d (.s [])), (.d (.i .i64 0)), (.d (.i .i64 0))])),
oz (.st 4 (.t 8) (.t 35)) 0]) (
sq ([
oo 9 (.mv (.k (.d (.s []))))]) (
.seq (sq ([
om 36 0,
om 37 7,
oo 38 (.ia 1 (.t 36) (.t 37)),
ol 39 false 1 38,
oo 40 (.bin .rem (.t 39) (.k (.d (.i .u16 3))))]) (
.block 2 (sq ([
oo 59 (.bin .eql (.t 40) (.k (.d (.i .u16 0)))),
om 58 59]) (
ct 58 (
.seq (.region true [
om 60 0,
om 61 7,
ow 62 (.ia 1 (.t 60) (.t 61)) 3,
ow 63 (.ld false 1 (.t 62)) 7,
ow 64 (.bin .quo (.t 63) (.k (.d (.i .u16 3)))) 15,
ow 65 (.bin .rem (.t 64) (.k (.d (.i .u16 26)))) 31,
ow 66 (.bin .add (.k (.d (.i .u16 97))) (.t 65)) 63,
ow 67 (.conv .u8 (.t 66)) 127,
om 68 0,
om 69 7,
ow 70 (.ia 1 (.t 68) (.t 69)) 768,
ow 71 (.ld false 1 (.t 70)) 1792,
ow 72 (.bin .quo (.t 71) (.k (.d (.i .u16 100)))) 3840,
ow 73 (.bin .rem (.t 72) (.k (.d (.i .u16 10)))) 7936,
ow 74 (.bin .add (.k (.d (.i .u16 48))) (.t 73)) 16128,
ow 75 (.conv .u8 (.t 74)) 32512,
ow 76 (.bsl 1 2 [(.i .u8 0)] [(0, .t 67), (1, .t 75)]) 65535,
ow 77 (.bts (.t 76)) 131071,
ow 78 (.bin .add (.k (.d (.s [110]))) (.t 77)) 262143,
ow 9 (.mv (.t 78)) 524287]) (
.region false [
om 79 9,
oo 80 (fa 0 8),
oz (.st 1 (.t 80) (ki 1)) 0,
oo 81 (fa 1 8),
oz (.st 1 (.t 81) (.t 79)) 0])) (sq ([
oo 83 (.bin .eql (.t 40) (.k (.d (.i .u16 1)))),
om 82 83]) (
ct 82 (
.seq (.region true [
om 84 0,
om 85 7,
ow 86 (.ia 1 (.t 84) (.t 85)) 3,
ow 87 (.ld false 1 (.t 86)) 7,
ow 88 (.bin .quo (.t 87) (.k (.d (.i .u16 3)))) 15,
ow 89 (.bin .rem (.t 88) (.k (.d (.i .u16 10)))) 31,
ow 90 (.bin .add (.k (.d (.i .u16 48))) (.t 89)) 63,
ow 91 (.conv .u8 (.t 90)) 127,
om 92 0,
om 93 7,
ow 94 (.ia 1 (.t 92) (.t 93)) 768,
ow 95 (.ld false 1 (.t 94)) 1792,
ow 96 (.bin .quo (.t 95) (.k (.d (.i .u16 31)))) 3840,
ow 97 (.bin .rem (.t 96) (.k (.d (.i .u16 10)))) 7936,
ow 98 (.bin .add (.k (.d (.i .u16 48))) (.t 97)) 16128,
ow 99 (.conv .u8 (.t 98)) 32512,
ow 100 (.bsl 1 2 [(.i .u8 0)] [(0, .t 91), (1, .t 99)]) 65535,
ow 101 (.bts (.t 100)) 131071,
ow 9 (.mv (.t 101)) 262143]) (
.region true [
om 102 0,
om 103 7,
ow 104 (.ia 1 (.t 102) (.t 103)) 3,
ow 105 (.ld false 1 (.t 104)) 7,
ow 106 (.bin .quo (.t 105) (.k (.d (.i .u16 3)))) 15,
ow 107 (.bin .rem (.t 106) (.k (.d (.i .u16 10)))) 31,
ow 108 (.conv .i64 (.t 107)) 63,
ow 109 (.bin .mul (.t 108) (ki 10)) 127,
om 110 0,
om 111 7,
ow 112 (.ia 1 (.t 110) (.t 111)) 768,
ow 113 (.ld false 1 (.t 112)) 1792,
ow 114 (.bin .quo (.t 113) (.k (.d (.i .u16 31)))) 3840,
ow 115 (.bin .rem (.t 114) (.k (.d (.i .u16 10)))) 7936,
ow 116 (.conv .i64 (.t 115)) 16128,
ow 117 (.bin .add (.t 109) (.t 116)) 32767,
oo 118 (fa 0 8),
oz (.st 1 (.t 118) (ki 2)) 65536,
ow 119 (fa 2 8) 262143,
oz (.st 1 (.t 119) (.t 117)) 524287])) (.seq (.region true [
om 41 0,
om 42 7,
ow 43 (.ia 1 (.t 41) (.t 42)) 3,
ow 44 (.ld false 1 (.t 43)) 7,
ow 45 (.bin .quo (.t 44) (.k (.d (.i .u16 3)))) 15,
ow 46 (.bin .rem (.t 45) (.k (.d (.i .u16 9)))) 31,
om 47 0,
om 48 7,
ow 49 (.ia 1 (.t 47) (.t 48)) 192,
ow 50 (.ld false 1 (.t 49)) 448,
ow 51 (.bin .quo (.t 50) (.k (.d (.i .u16 3)))) 960,
ow 52 (.bin .rem (.t 51) (.k (.d (.i .u16 9)))) 1984,
ow 53 (.bin .add (.t 52) (.k (.d (.i .u16 1)))) 4032,
ow 54 (.sls (.k (.d (.s [123, 125, 40, 41, 61, 46, 58, 59, 62]))) (some (.t 46)) (some (.t 53))) 8191,
ow 9 (.mv (.t 54)) 16383]) (
.region false [
om 55 9,
oo 56 (fa 0 8),
oz (.st 1 (.t 56) (ki 4)) 0,
oo 57 (fa 1 8),
oz (.st 1 (.t 57) (.t 55)) 0])))))))) (
.region false [
om 120 6,
ol 121 true 4 8,
oo 122 (.bsl 4 1 [(.i .i64 0), (.s []), (.i .i64 0), (.i .i64 0)] [(0, .t 121)]),
oo 123 (.app 4 40 (.t 120) (.t 122)),
om 124 5,
om 125 9,
ob 126 .add (.t 124) (.t 125),
oo 127 (.bin .add (.t 126) (.k (.d (.s [32])))),
om 6 123,
om 5 127]))))) (
.region false [
om 31 7,
ob 32 .add (.t 31) (ki 1),
om 7 32])))))) (
.seq (sq ([
oo 10 (.mv (ki 0))]) (
.block 3 (.loop ⟨[1, 5, 6, 10], [6], [], [], [], true⟩ (.seq (sq ([
om 128 10,
om 129 1,
oo 130 (.len 0 (.t 129)),
ob 131 .lss (.t 128) (.t 130)]) (
ct 131 (
.skip) (.exit 3))) (
.seq (.block 4 (sq ([
oo 11 (.mv (.k (.d (.s []))))]) (
.seq (sq ([
oo 12 (.mv (ki 0))]) (
.block 5 (.loop ⟨[1, 5, 6, 10, 11, 12], [], [], [], [], true⟩ (.seq (sq ([
om 134 12,
om 135 1,
om 136 10,
oo 137 (.ia 1 (.t 135) (.t 136)),
ol 138 false 1 137,
oo 139 (.len 1 (.t 138)),
ob 140 .lss (.t 134) (.t 139)]) (
ct 140 (
.skip) (.exit 5))) (
.seq (.block 6 (sq ([
om 143 1,
om 144 10,
oo 145 (.ia 1 (.t 143) (.t 144)),
ol 146 false 1 145,
om 147 12,
oo 148 (.ixs (.t 146) (.t 147)),
om 13 148]) (
.seq (sq ([
om 149 13,
oo 150 (.bin .lss (.t 149) (.k (.d (.i .u8 32)))),
om 151 150,
oh 152 (.mv (.t 13)) 151,
oh 153 (.bin .gtr (.t 152) (.k (.d (.i .u8 126)))) 151,
oo 154 (.pick (.t 151) (kb true) (.t 153)),
om 155 154,
oh 156 (.mv (.t 1)) 155,
oh 157 (.mv (.t 10)) 155,
oh 158 (.ia 1 (.t 156) (.t 157)) 155,
oh 159 (.ld false 1 (.t 158)) 155,
oh 160 (.len 1 (.t 159)) 155,
oh 161 (.bin .gtr (.t 160) (ki 20)) 155,
oo 162 (.pick (.t 155) (kb true) (.t 161))]) (
ct 162 (
sq ([
oo 4 (.mv (kb true))]) (
.ret)) (.skip))) (
.seq (sq ([
om 163 13,
oo 164 (.bin .eql (.t 163) (.k (.d (.i .u8 34)))),
om 165 164,
oh 166 (.mv (.t 13)) 165,
oh 167 (.bin .eql (.t 166) (.k (.d (.i .u8 92)))) 165,
oo 168 (.pick (.t 165) (kb true) (.t 167))]) (
ct 168 (
.region false [
om 169 11,
oo 170 (.bin .add (.t 169) (.k (.d (.s [92])))),
om 11 170]) (.skip))) (
.region false [
om 171 11,
om 172 13,
oo 173 (.bsl 1 1 [(.i .u8 0)] [(0, .t 172)]),
oo 174 (.bts (.t 173)),
ob 175 .add (.t 171) (.t 174),
om 11 175]))))) (
.region false [
om 141 12,
ob 142 .add (.t 141) (ki 1),
om 12 142])))))) (
sq ([
om 176 6,
om 177 1,
om 178 10,
oo 179 (.ia 1 (.t 177) (.t 178)),
ol 180 false 1 179,
om 181 5,
oo 182 (.len 1 (.t 181)),
oo 183 (.build [(.d (.i .i64 0)), (.d (.s [])), (.d (.i .i64 0)), (.d (.i .i64 0))] [(0, 1, (ki 3)), (1, 1, .t 180), (3, 1, .t 182)]),
oo 184 (.bsl 4 1 [(.i .i64 0), (.s []), (.i .i64 0), (.i .i64 0)] [(0, .t 183)]),
oo 185 (.app 4 40 (.t 176) (.t 184)),
om 6 185]) (
.region false [
om 186 5,
oo 187 (.bin .add (.t 186) (.k (.d (.s [34])))),
om 188 11,
ob 189 .add (.t 187) (.t 188),
oo 190 (.bin .add (.t 189) (.k (.d (.s [34, 10])))),
om 5 190]))))) (
.region false [
om 132 10,
ob 133 .add (.t 132) (ki 1),
om 10 133])))))) (
sq ([
om 192 5,
oo 193 (.call 447 [.t 192] 0 true),
om 191 193,
oo 194 (.ext (.t 191) 0),
oo 195 (.ext (.t 191) 1),
oo 196 (.ext (.t 191) 2),
om 14 194,
om 15 195,
om 16 196]) (
sq ([
om 197 16,
om 198 197,
og 199 (.mv (.t 15)) 198,
og 200 (.bin .eql (.t 199) (ki 0)) 198,
oo 201 (.pick (.t 198) (.t 200) (kb false)),
om 202 201,
og 203 (.mv (.t 14)) 202,
og 204 (.mv (.t 6)) 202,
og 205 (.call 449 [.t 203, .t 204] 0 true) 202,
oo 206 (.pick (.t 202) (.t 205) (kb false)),
om 4 206]) (
.ret))))))))), [.slot 4]⟩
def n444 : Notes := { anns := [⟨[0, 1, 5, 6, 7], [6], [], [], [], true⟩, ⟨[1, 5, 6, 10], [6], [], [], [], true⟩, ⟨[1, 5, 6, 10, 11, 12], [], [], [], [], true⟩], frz := [], rgs := [] }
def c446 : CFn := ⟨sq ([
oo 0 (.mv (kb false))]) (
sq ([
oo 8 (.call 447 [(.k (.d (.s [97, 49, 32, 61, 32, 34, 120, 92, 34, 34, 32, 49, 50, 59, 32, 35, 32, 110, 111])))] 0 true),
om 7 8,
oo 9 (.ext (.t 7) 0),
oo 10 (.ext (.t 7) 1),
oo 11 (.ext (.t 7) 2),
om 1 9,
om 2 10,
om 3 11]) (
sq ([
oo 13 (.call 447 [(.k (.d (.s [97, 32, 63])))] 0 true),
om 12 13,
oo 14 (.ext (.t 12) 0),
oo 15 (.ext (.t 12) 1),
oo 16 (.ext (.t 12) 2),
om 4 14,
om 5 15,
om 6 16]) (
sq ([
om 17 3,
om 18 17,
og 19 (.mv (.t 1)) 18,
og 20 (.len 0 (.t 19)) 18,
og 21 (.bin .eql (.t 20) (ki 5)) 18,
oo 22 (.pick (.t 18) (.t 21) (kb false)),
om 23 22,
og 24 (.mv (.t 1)) 23,
og 25 (.ia 4 (.t 24) (ki 0)) 23,
og 26 (.ld true 4 (.t 25)) 23,
og 27 (.build [(.d (.i .i64 0)), (.d (.s [])), (.d (.i .i64 0)), (.d (.i .i64 0))] [(0, 1, (ki 1)), (1, 1, (.k (.d (.s [97, 49]))))]) 23,
og 28 (.eqa [.i, .s, .i, .i] false (.t 26) (.t 27)) 23,
oo 29 (.pick (.t 23) (.t 28) (kb false)),
om 30 29,
og 31 (.mv (.t 1)) 30,
og 32 (.ia 4 (.t 31) (ki 2)) 30,
og 33 (fa 1 32) 30,
og 34 (.ld false 1 (.t 33)) 30,
og 35 (.bin .eql (.t 34) (.k (.d (.s [120, 34])))) 30,
oo 36 (.pick (.t 30) (.t 35) (kb false)),
om 37 36,
og 38 (.mv (.t 1)) 37,
og 39 (.ia 4 (.t 38) (ki 3)) 37,
og 40 (fa 2 39) 37,
og 41 (.ld false 1 (.t 40)) 37,
og 42 (.bin .eql (.t 41) (ki 12)) 37,
oo 43 (.pick (.t 37) (.t 42) (kb false)),
om 44 43,
og 45 (.mv (.t 1)) 44,
og 46 (.ia 4 (.t 45) (ki 4)) 44,
og 47 (fa 1 46) 44,
og 48 (.ld false 1 (.t 47)) 44,
og 49 (.bin .eql (.t 48) (.k (.d (.s [59])))) 44,
oo 50 (.pick (.t 44) (.t 49) (kb false)),
om 51 50,
og 52 (.mv (.t 6)) 51,
og 53 (.un .not (.t 52)) 51,
oo 54 (.pick (.t 51) (.t 53) (kb false)),
om 55 54,
og 56 (.mv (.t 5)) 55,
og 57 (.bin .eql (.t 56) (ki 2)) 55,
oo 58 (.pick (.t 55) (.t 57) (kb false)),
om 0 58]) (
.ret)))), [.slot 0]⟩
def n446 : Notes := { anns := [], frz := [], rgs := [] }
def c447 : CFn := ⟨sq ([
oo 2 (.zero (.nil 4)),
oo 3 (.zero (.d (.i .i64 0))),
oo 4 (.zero (.d (.b false)))]) (
.seq (sq ([
om 7 0,
oo 8 (.len 1 (.t 7)),
ob 9 .gtr (.t 8) (ki 1500)]) (
ct 9 (
sq ([
oz (.st 1 (.t 2) (.k (.nil 4))) 0,
oz (.st 1 (.t 3) (ki 0)) 0,
oz (.st 1 (.t 4) (kb false)) 0]) (
.ret)) (.skip))) (
.seq (sq ([
om 10 0,
oo 11 (.call 450 [.t 10] 4 true)]) (
.block 0 (.range [(2, 0)] (.t 11) 10447 [2, 3, 4] 4))) (
sq ([
ol 27 false 1 2,
oz (.st 1 (.t 2) (.t 27)) 0,
oz (.st 1 (.t 3) (ki 0)) 0,
oz (.st 1 (.t 4) (kb true)) 0]) (
.ret)))), [.cell 2 false 1, .cell 3 false 1, .cell 4 false 1]⟩
def n447 : Notes := { anns := [], frz := [], rgs := [(10447, [2, 3, 4], 4, [(2, 0)])] }
def c448 : CFn := ⟨sq ([
oo 2 (.mv (.k (.nil 4))),
oo 3 (.mv (ki 0)),
oo 4 (.mv (kb false))]) (
.seq (sq ([
om 10 0,
oo 11 (.len 1 (.t 10)),
ob 12 .gtr (.t 11) (ki 1500)]) (
ct 12 (
sq ([
oo 2 (.mv (.k (.nil 4))),
oo 3 (.mv (ki 0)),
oo 4 (.mv (kb false))]) (
.ret)) (.skip))) (
sq ([
oo 5 (.mv (.k (.nil 4)))]) (
.seq (sq ([
oo 6 (.mv (ki 0))]) (
.block 0 (.loop ⟨[0, 5, 6], [5], [], [], [], true⟩ (.seq (sq ([
om 13 6,
om 14 0,
oo 15 (.len 1 (.t 14)),
ob 16 .lss (.t 13) (.t 15)]) (
ct 16 (
.skip) (.exit 0))) (
.block 1 (sq ([
om 17 0,
om 18 6,
oo 19 (.ixs (.t 17) (.t 18)),
om 7 19]) (
.seq (sq ([
om 20 7,
oo 21 (.bin .eql (.t 20) (.k (.d (.i .u8 32)))),
om 22 21,
oh 23 (.mv (.t 7)) 22,
oh 24 (.bin .eql (.t 23) (.k (.d (.i .u8 9)))) 22,
oo 25 (.pick (.t 22) (kb true) (.t 24)),
om 26 25,
oh 27 (.mv (.t 7)) 26,
oh 28 (.bin .eql (.t 27) (.k (.d (.i .u8 10)))) 26,
oo 29 (.pick (.t 26) (kb true) (.t 28))]) (
ct 29 (
sq ([
om 30 6,
ob 31 .add (.t 30) (ki 1),
om 6 31]) (
.exit 1)) (.skip))) (
.seq (sq ([
om 32 7,
oo 33 (.bin .eql (.t 32) (.k (.d (.i .u8 35))))]) (
ct 33 (
.seq (.block 2 (.loop ⟨[0, 5, 6], [], [], [], [], true⟩ (.seq (sq ([
om 34 6,
om 35 0,
oo 36 (.len 1 (.t 35)),
ob 37 .lss (.t 34) (.t 36),
om 38 37,
og 39 (.mv (.t 0)) 38,
og 40 (.mv (.t 6)) 38,
og 41 (.ixs (.t 39) (.t 40)) 38,
og 42 (.bin .neq (.t 41) (.k (.d (.i .u8 10)))) 38,
oo 43 (.pick (.t 38) (.t 42) (kb false))]) (
ct 43 (
.skip) (.exit 2))) (
.block 3 (.region false [
om 44 6,
ob 45 .add (.t 44) (ki 1),
om 6 45]))))) (
.exit 1)) (.skip))) (
sq ([
om 47 0,
om 48 6,
oo 49 (.sls (.t 47) (some (.t 48)) none),
oo 50 (.call 451 [.t 49] 0 true),
om 46 50,
oo 51 (.ext (.t 46) 0),
oo 52 (.ext (.t 46) 1),
oo 8 (.zero (.agg [(.d (.i .i64 0)), (.d (.s [])), (.d (.i .i64 0)), (.d (.i .i64 0))])),
oz (.st 4 (.t 8) (.t 51)) 0,
om 9 52]) (
.seq (sq ([
om 53 9,
ob 54 .eql (.t 53) (ki 0),
om 55 54,
oh 56 (.mv (.t 5)) 55,
oh 57 (.len 0 (.t 56)) 55,
oh 58 (.bin .geq (.t 57) (ki 400)) 55,
oo 59 (.pick (.t 55) (kb true) (.t 58))]) (
ct 59 (
sq ([
om 60 6,
oo 2 (.mv (.k (.nil 4))),
om 3 60,
oo 4 (.mv (kb false))]) (
.ret)) (.skip))) (
sq ([
om 61 6,
oo 62 (fa 3 8),
oz (.st 1 (.t 62) (.t 61)) 0]) (
.region false [
om 63 5,
ol 64 true 4 8,
oo 65 (.bsl 4 1 [(.i .i64 0), (.s []), (.i .i64 0), (.i .i64 0)] [(0, .t 64)]),
oo 66 (.app 4 40 (.t 63) (.t 65)),
om 67 6,
om 68 9,
ob 69 .add (.t 67) (.t 68),
om 5 66,
om 6 69])))))))))))) (
sq ([
om 70 5,
om 2 70,
oo 3 (.mv (ki 0)),
oo 4 (.mv (kb true))]) (
.ret))))), [.slot 2, .slot 3, .slot 4]⟩
def n448 : Notes := { anns := [⟨[0, 5, 6], [5], [], [], [], true⟩, ⟨[0, 5, 6], [], [], [], [], true⟩], frz := [], rgs := [] }
def c449 : CFn := ⟨sq ([
oo 4 (.mv (kb false))]) (
.seq (sq ([
om 6 0,
oo 7 (.len 0 (.t 6)),
om 8 1,
oo 9 (.len 0 (.t 8)),
ob 10 .neq (.t 7) (.t 9)]) (
ct 10 (
sq ([
oo 4 (.mv (kb false))]) (
.ret)) (.skip))) (
.seq (sq ([
oo 5 (.mv (ki 0))]) (
.block 0 (.loop ⟨[0, 1, 5], [], [], [], [], true⟩ (.seq (sq ([
om 11 5,
om 12 0,
oo 13 (.len 0 (.t 12)),
ob 14 .lss (.t 11) (.t 13)]) (
ct 14 (
.skip) (.exit 0))) (
.seq (.block 1 (.seq (.region true [
om 17 0,
om 18 5,
ow 19 (.ia 4 (.t 17) (.t 18)) 3,
ow 20 (.ld true 4 (.t 19)) 7,
om 21 1,
om 22 5,
ow 23 (.ia 4 (.t 21) (.t 22)) 48,
ow 24 (.ld true 4 (.t 23)) 112,
ow 25 (.eqa [.i, .s, .i, .i] true (.t 20) (.t 24)) 255]) (
ct 25 (
sq ([
oo 4 (.mv (kb false))]) (
.ret)) (.skip)))) (
.region false [
om 15 5,
ob 16 .add (.t 15) (ki 1),
om 5 16])))))) (
sq ([
oo 4 (.mv (kb true))]) (
.ret)))), [.slot 4]⟩
def n449 : Notes := { anns := [⟨[0, 1, 5], [], [], [], [], true⟩], frz := [], rgs := [] }
def c450 : CFn := ⟨sq ([
oo 1 (.box (.t 0)),
oo 2 (.mv (.k (.d .nf)))]) (
sq ([
oo 3 (.mkf 452 [] [.t 1] true),
om 2 3]) (
.ret)), [.slot 2]⟩
def n450 : Notes := { anns := [], frz := [0, 0, 1], rgs := [] }
def c451 : CFn := ⟨sq ([
oo 2 (.zero (.agg [(.d (.i .i64 0)), (.d (.s [])), (.d (.i .i64 0)), (.d (.i .i64 0))])),
oo 3 (.mv (ki 0))]) (
sq ([
oo 4 (.mv (ki 0))]) (
.seq (.block 0 (sq ([
om 9 0,
oo 10 (.ixs (.t 9) (ki 0)),
oo 11 (.call 455 [.t 10] 0 true),
om 8 11]) (
ct 8 (
.seq (.block 1 (.loop ⟨[0, 2, 4], [], [], [], [], true⟩ (.seq (sq ([
om 12 4,
om 13 0,
oo 14 (.len 1 (.t 13)),
ob 15 .lss (.t 12) (.t 14),
om 16 15,
og 17 (.mv (.t 0)) 16,
og 18 (.mv (.t 4)) 16,
og 19 (.ixs (.t 17) (.t 18)) 16,
og 20 (.call 455 [.t 19] 0 true) 16,
og 21 (.mv (.t 20)) 16,
oh 22 (.mv (.t 0)) 21,
oh 23 (.mv (.t 4)) 21,
oh 24 (.ixs (.t 22) (.t 23)) 21,
oh 25 (.call 456 [.t 24] 0 true) 21,
og 26 (.pick (.t 21) (kb true) (.t 25)) 16,
oo 27 (.pick (.t 16) (.t 26) (kb false))]) (
ct 27 (
.skip) (.exit 1))) (
.block 2 (.region false [
om 28 4,
ob 29 .add (.t 28) (ki 1),
om 4 29]))))) (
sq ([
om 30 0,
om 31 4,
oo 32 (.sls (.t 30) none (some (.t 31))),
oo 33 (.build [(.d (.i .i64 0)), (.d (.s [])), (.d (.i .i64 0)), (.d (.i .i64 0))] [(0, 1, (ki 1)), (1, 1, .t 32)]),
om 34 4,
oz (.st 4 (.t 2) (.t 33)) 0,
om 3 34]) (
.ret))) (sq ([
om 36 0,
oo 37 (.ixs (.t 36) (ki 0)),
oo 38 (.call 456 [.t 37] 0 true),
om 35 38]) (
ct 35 (
sq ([
oo 5 (.mv (ki 0))]) (
.seq (.block 3 (.loop ⟨[0, 2, 4, 5], [], [], [], [], true⟩ (.seq (sq ([
om 39 4,
om 40 0,
oo 41 (.len 1 (.t 40)),
ob 42 .lss (.t 39) (.t 41),
om 43 42,
og 44 (.mv (.t 0)) 43,
og 45 (.mv (.t 4)) 43,
og 46 (.ixs (.t 44) (.t 45)) 43,
og 47 (.call 456 [.t 46] 0 true) 43,
oo 48 (.pick (.t 43) (.t 47) (kb false))]) (
ct 48 (
.skip) (.exit 3))) (
.block 4 (.seq (sq ([
om 49 4,
ob 50 .lss (.t 49) (ki 18)]) (
ct 50 (
.region false [
om 51 5,
ob 52 .mul (.t 51) (ki 10),
om 53 0,
om 54 4,
oo 55 (.ixs (.t 53) (.t 54)),
oo 56 (.bin .sub (.t 55) (.k (.d (.i .u8 48)))),
oo 57 (.conv .i64 (.t 56)),
ob 58 .add (.t 52) (.t 57),
om 5 58]) (.skip))) (
.region false [
om 59 4,
ob 60 .add (.t 59) (ki 1),
om 4 60])))))) (
.seq (sq ([
om 61 4,
ob 62 .gtr (.t 61) (ki 18)]) (
ct 62 (
sq ([
oo 63 (.build [(.d (.i .i64 0)), (.d (.s [])), (.d (.i .i64 0)), (.d (.i .i64 0))] []),
oz (.st 4 (.t 2) (.t 63)) 0,
oo 3 (.mv (ki 0))]) (
.ret)) (.skip))) (
sq ([
om 64 5,
oo 65 (.build [(.d (.i .i64 0)), (.d (.s [])), (.d (.i .i64 0)), (.d (.i .i64 0))] [(0, 1, (ki 2)), (2, 1, .t 64)]),
om 66 4,
oz (.st 4 (.t 2) (.t 65)) 0,
om 3 66]) (
.ret))))) (sq ([
om 68 0,
oo 69 (.ixs (.t 68) (ki 0)),
oo 70 (.bin .eql (.t 69) (.k (.d (.i .u8 34)))),
om 67 70]) (
ct 67 (
sq ([
om 71 0,
oo 72 (.call 457 [.t 71] 0 true),
oo 73 (.ext (.t 72) 0),
oo 74 (.ext (.t 72) 1),
oz (.st 4 (.t 2) (.t 73)) 0,
om 3 74]) (
.ret)) (.skip)))))))) (
sq ([
oo 6 (.mv (.k (.d (.s [123, 125, 40, 41, 61, 46, 58, 59, 62]))))]) (
.seq (sq ([
oo 7 (.mv (ki 0))]) (
.block 5 (.loop ⟨[0, 2, 6, 7], [], [], [], [], true⟩ (.seq (sq ([
om 75 7,
om 76 6,
oo 77 (.len 1 (.t 76)),
ob 78 .lss (.t 75) (.t 77)]) (
ct 78 (
.skip) (.exit 5))) (
.seq (.block 6 (.seq (.region true [
om 81 6,
om 82 7,
ow 83 (.ixs (.t 81) (.t 82)) 3,
om 84 0,
ow 85 (.ixs (.t 84) (ki 0)) 8,
ow 86 (.bin .eql (.t 83) (.t 85)) 31]) (
ct 86 (
sq ([
om 87 0,
oo 88 (.sls (.t 87) none (some (ki 1))),
oo 89 (.build [(.d (.i .i64 0)), (.d (.s [])), (.d (.i .i64 0)), (.d (.i .i64 0))] [(0, 1, (ki 4)), (1, 1, .t 88)]),
oz (.st 4 (.t 2) (.t 89)) 0,
oo 3 (.mv (ki 1))]) (
.ret)) (.skip)))) (
.region false [
om 79 7,
ob 80 .add (.t 79) (ki 1),
om 7 80])))))) (
sq ([
oo 90 (.build [(.d (.i .i64 0)), (.d (.s [])), (.d (.i .i64 0)), (.d (.i .i64 0))] []),
oz (.st 4 (.t 2) (.t 90)) 0,
oo 3 (.mv (ki 0))]) (
.ret)))))), [.cell 2 true 4, .slot 3]⟩
def n451 : Notes := { anns := [⟨[0, 2, 4], [], [], [], [], true⟩, ⟨[0, 2, 4, 5], [], [], [], [], true⟩, ⟨[0, 2, 6, 7], [], [], [], [], true⟩], frz := [], rgs := [] }
def c452 : CFn := ⟨sq ([
ol 7 false 1 1,
oo 8 (.call 453 [.t 7] 0 true),
om 3 8]) (
.block 0 (.loop ⟨[0, 1, 3], [], [], [], [], true⟩ (.seq (sq ([
om 9 3,
ol 10 false 1 1,
oo 11 (.len 1 (.t 10)),
ob 12 .lss (.t 9) (.t 11)]) (
ct 12 (
.skip) (.exit 0))) (
.seq (.block 1 (sq ([
ol 20 false 1 1,
om 21 3,
oo 22 (.sls (.t 20) (some (.t 21)) none),
oo 23 (.call 454 [.t 22] 0 true),
om 19 23,
oo 24 (.ext (.t 19) 0),
oo 25 (.ext (.t 19) 1),
oo 26 (.ext (.t 19) 2),
oo 4 (.zero (.agg [(.d (.i .i64 0)), (.d (.s [])), (.d (.i .i64 0)), (.d (.i .i64 0))])),
oz (.st 4 (.t 4) (.t 24)) 0,
om 5 25,
om 6 26]) (
sq ([
om 27 3,
oo 28 (fa 3 4),
oz (.st 1 (.t 28) (.t 27)) 0]) (
.seq (sq ([
om 29 0,
ol 30 true 4 4,
om 31 6,
oo 32 (.callv (.t 29) [.t 30, .t 31] 4 true),
oo 33 (.un .not (.t 32)),
om 34 33,
oh 35 (.mv (.t 6)) 34,
oh 36 (.un .not (.t 35)) 34,
oo 37 (.pick (.t 34) (kb true) (.t 36))]) (
ct 37 (
.ret) (.skip))) (
.region false [
om 38 3,
om 39 5,
ob 40 .add (.t 38) (.t 39),
om 3 40]))))) (
.region false [
om 13 3,
ol 14 false 1 1,
om 15 3,
oo 16 (.sls (.t 14) (some (.t 15)) none),
oo 17 (.call 453 [.t 16] 0 true),
ob 18 .add (.t 13) (.t 17),
om 3 18]))))), []⟩
def n452 : Notes := { anns := [⟨[0, 1, 3], [], [], [], [], true⟩], frz := [], rgs := [] }
def c453 : CFn := ⟨sq ([
oo 2 (.mv (ki 0))]) (
.seq (.block 0 (.loop ⟨[0, 2], [], [], [], [], true⟩ (.seq (sq ([
om 3 2,
om 4 0,
oo 5 (.len 1 (.t 4)),
ob 6 .lss (.t 3) (.t 5)]) (
ct 6 (
.skip) (.exit 0))) (
.block 1 (sq ([
om 7 0,
om 8 2,
oo 9 (.ixs (.t 7) (.t 8))]) (
.block 2 (.seq (sq ([
oo 12 (.bin .eql (.t 9) (.k (.d (.i .u8 32)))),
om 11 12]) (
ct 11 (
.skip) (sq ([
oo 13 (.bin .eql (.t 9) (.k (.d (.i .u8 9)))),
om 11 13]) (
ct 11 (
.skip) (.region false [
oo 14 (.bin .eql (.t 9) (.k (.d (.i .u8 10)))),
om 11 14]))))) (
ct 11 (
.region false [
om 15 2,
ob 16 .add (.t 15) (ki 1),
om 2 16]) (sq ([
oo 18 (.bin .eql (.t 9) (.k (.d (.i .u8 35)))),
om 17 18]) (
ct 17 (
.region false [
om 19 2,
om 20 0,
om 21 2,
oo 22 (.sls (.t 20) (some (.t 21)) none),
oo 23 (.call 458 [.t 22, (.k (.d (.f 459 [] [])))] 4 true),
ob 24 .add (.t 19) (.t 23),
om 2 24]) (sq ([
om 10 2,
om 2 10]) (
.ret)))))))))))) (
sq ([
om 25 2,
om 2 25]) (
.ret))), [.slot 2]⟩
def n453 : Notes := { anns := [⟨[0, 2], [], [], [], [], true⟩], frz := [], rgs := [] }
def c454 : CFn := ⟨sq ([
oo 2 (.zero (.agg [(.d (.i .i64 0)), (.d (.s [])), (.d (.i .i64 0)), (.d (.i .i64 0))])),
oo 3 (.mv (ki 0)),
oo 4 (.mv (kb false))]) (
.seq (sq ([
om 11 0,
oo 12 (.ixs (.t 11) (ki 0)),
om 5 12]) (
.block 0 (sq ([
om 14 5,
oo 15 (.call 460 [.t 14] 0 true),
om 13 15]) (
ct 13 (
sq ([
om 16 0,
oo 17 (.call 458 [.t 16, (.k (.d (.f 461 [] [])))] 4 true),
om 3 17]) (
sq ([
om 18 0,
om 19 3,
oo 20 (.sls (.t 18) none (some (.t 19))),
oo 21 (.build [(.d (.i .i64 0)), (.d (.s [])), (.d (.i .i64 0)), (.d (.i .i64 0))] [(0, 1, (ki 1)), (1, 1, .t 20)]),
om 22 3,
oz (.st 4 (.t 2) (.t 21)) 0,
om 3 22,
oo 4 (.mv (kb true))]) (
.ret))) (sq ([
om 24 5,
oo 25 (.call 462 [.t 24] 0 true),
om 23 25]) (
ct 23 (
.seq (sq ([
om 26 0,
oo 27 (.call 458 [.t 26, (.k (.d (.f 462 [] [])))] 4 true),
om 3 27]) (
sq ([
om 28 3,
ob 29 .gtr (.t 28) (ki 18)]) (
ct 29 (
sq ([
ol 30 true 4 2,
oz (.st 4 (.t 2) (.t 30)) 0,
oo 3 (.mv (ki 0)),
oo 4 (.mv (kb false))]) (
.ret)) (.skip)))) (
sq ([
om 32 0,
om 33 3,
oo 34 (.sls (.t 32) none (some (.t 33))),
oo 35 (.call 296 [.t 34, (ki 10), (ki 64)] 0 true),
om 31 35,
oo 36 (.ext (.t 31) 0),
oo 37 (.ext (.t 31) 1),
om 6 36,
om 7 37]) (
sq ([
om 38 6,
oo 39 (.build [(.d (.i .i64 0)), (.d (.s [])), (.d (.i .i64 0)), (.d (.i .i64 0))] [(0, 1, (ki 2)), (2, 1, .t 38)]),
om 40 3,
oz (.st 4 (.t 2) (.t 39)) 0,
om 3 40,
oo 4 (.mv (kb true))]) (
.ret)))) (sq ([
om 42 5,
oo 43 (.bin .eql (.t 42) (.k (.d (.i .u8 34)))),
om 41 43]) (
ct 41 (
sq ([
om 45 0,
oo 46 (.call 463 [.t 45] 0 true),
om 44 46,
oo 47 (.ext (.t 44) 0),
oo 48 (.ext (.t 44) 1),
oo 49 (.ext (.t 44) 2),
om 8 47,
om 9 48,
om 10 49]) (
sq ([
om 50 8,
oo 51 (.build [(.d (.i .i64 0)), (.d (.s [])), (.d (.i .i64 0)), (.d (.i .i64 0))] [(0, 1, (ki 3)), (1, 1, .t 50)]),
om 52 9,
om 53 10,
oz (.st 4 (.t 2) (.t 51)) 0,
om 3 52,
om 4 53]) (
.ret))) (sq ([
om 55 5,
oo 56 (.call 334 [(.k (.d (.s [123, 125, 40, 41, 61, 46, 58, 59, 62]))), (.t 55)] 0 true),
ob 57 .geq (.t 56) (ki 0),
om 54 57]) (
ct 54 (
sq ([
om 58 0,
oo 59 (.sls (.t 58) none (some (ki 1))),
oo 60 (.build [(.d (.i .i64 0)), (.d (.s [])), (.d (.i .i64 0)), (.d (.i .i64 0))] [(0, 1, (ki 4)), (1, 1, .t 59)]),
oz (.st 4 (.t 2) (.t 60)) 0,
oo 3 (.mv (ki 1)),
oo 4 (.mv (kb true))]) (
.ret)) (.skip))))))))))) (
sq ([
ol 61 true 4 2,
oz (.st 4 (.t 2) (.t 61)) 0,
oo 3 (.mv (ki 0)),
oo 4 (.mv (kb false))]) (
.ret))), [.cell 2 true 4, .slot 3, .slot 4]⟩
def n454 : Notes := { anns := [], frz := [], rgs := [] }
def c455 : CFn := ⟨sq ([
oo 2 (.mv (kb false))]) (
sq ([
om 3 0,
oo 4 (.bin .geq (.t 3) (.k (.d (.i .u8 97)))),
om 5 4,
og 6 (.mv (.t 0)) 5,
og 7 (.bin .leq (.t 6) (.k (.d (.i .u8 122)))) 5,
oo 8 (.pick (.t 5) (.t 7) (kb false)),
om 2 8]) (
.ret)), [.slot 2]⟩
def n455 : Notes := { anns := [], frz := [], rgs := [] }
def c456 : CFn := ⟨sq ([
oo 2 (.mv (kb false))]) (
sq ([
om 3 0,
oo 4 (.bin .geq (.t 3) (.k (.d (.i .u8 48)))),
om 5 4,
og 6 (.mv (.t 0)) 5,
og 7 (.bin .leq (.t 6) (.k (.d (.i .u8 57)))) 5,
oo 8 (.pick (.t 5) (.t 7) (kb false)),
om 2 8]) (
.ret)), [.slot 2]⟩
def n456 : Notes := { anns := [], frz := [], rgs := [] }
def c457 : CFn := ⟨sq ([
oo 2 (.zero (.agg [(.d (.i .i64 0)), (.d (.s [])), (.d (.i .i64 0)), (.d (.i .i64 0))])),
oo 3 (.mv (ki 0))]) (
sq ([
oo 4 (.mv (.k (.nil 1)))]) (
.seq (sq ([
oo 5 (.mv (ki 1))]) (
.block 0 (.loop ⟨[0, 2, 4, 5], [4], [], [], [], true⟩ (.seq (sq ([
om 7 5,
om 8 0,
oo 9 (.len 1 (.t 8)),
ob 10 .lss (.t 7) (.t 9)]) (
ct 10 (
.skip) (.exit 0))) (
.seq (.block 1 (sq ([
om 13 0,
om 14 5,
oo 15 (.ixs (.t 13) (.t 14)),
om 6 15]) (
.seq (.block 2 (sq ([
om 17 6,
oo 18 (.bin .eql (.t 17) (.k (.d (.i .u8 34)))),
om 16 18]) (
ct 16 (
sq ([
om 19 4,
oo 20 (.bts (.t 19)),
oo 21 (.build [(.d (.i .i64 0)), (.d (.s [])), (.d (.i .i64 0)), (.d (.i .i64 0))] [(0, 1, (ki 3)), (1, 1, .t 20)]),
om 22 5,
ob 23 .add (.t 22) (ki 1),
oz (.st 4 (.t 2) (.t 21)) 0,
om 3 23]) (
.ret)) (sq ([
om 25 6,
oo 26 (.bin .lss (.t 25) (.k (.d (.i .u8 32)))),
om 27 26,
oh 28 (.mv (.t 6)) 27,
oh 29 (.bin .gtr (.t 28) (.k (.d (.i .u8 126)))) 27,
oo 30 (.pick (.t 27) (kb true) (.t 29)),
om 24 30]) (
ct 24 (
sq ([
oo 31 (.build [(.d (.i .i64 0)), (.d (.s [])), (.d (.i .i64 0)), (.d (.i .i64 0))] []),
oz (.st 4 (.t 2) (.t 31)) 0,
oo 3 (.mv (ki 0))]) (
.ret)) (sq ([
om 33 6,
oo 34 (.bin .eql (.t 33) (.k (.d (.i .u8 92)))),
om 32 34]) (
ct 32 (
sq ([
om 35 5,
ob 36 .add (.t 35) (ki 1),
om 5 36]) (
.seq (sq ([
om 37 5,
om 38 0,
oo 39 (.len 1 (.t 38)),
ob 40 .geq (.t 37) (.t 39),
om 41 40,
oh 42 (.mv (.t 0)) 41,
oh 43 (.mv (.t 5)) 41,
oh 44 (.ixs (.t 42) (.t 43)) 41,
oh 45 (.bin .neq (.t 44) (.k (.d (.i .u8 34)))) 41,
oh 46 (.mv (.t 45)) 41,
og 47 (.mv (.t 0)) 46,
og 48 (.mv (.t 5)) 46,
og 49 (.ixs (.t 47) (.t 48)) 46,
og 50 (.bin .neq (.t 49) (.k (.d (.i .u8 92)))) 46,
oh 51 (.pick (.t 46) (.t 50) (kb false)) 41,
oo 52 (.pick (.t 41) (kb true) (.t 51))]) (
ct 52 (
sq ([
oo 53 (.build [(.d (.i .i64 0)), (.d (.s [])), (.d (.i .i64 0)), (.d (.i .i64 0))] []),
oz (.st 4 (.t 2) (.t 53)) 0,
oo 3 (.mv (ki 0))]) (
.ret)) (.skip))) (
.region false [
om 54 0,
om 55 5,
oo 56 (.ixs (.t 54) (.t 55)),
om 6 56]))) (.skip)))))))) (
.region false [
om 57 4,
om 58 6,
oo 59 (.bsl 1 1 [(.i .u8 0)] [(0, .t 58)]),
oo 60 (.app 1 1 (.t 57) (.t 59)),
om 4 60])))) (
.region false [
om 11 5,
ob 12 .add (.t 11) (ki 1),
om 5 12])))))) (
sq ([
oo 61 (.build [(.d (.i .i64 0)), (.d (.s [])), (.d (.i .i64 0)), (.d (.i .i64 0))] []),
oz (.st 4 (.t 2) (.t 61)) 0,
oo 3 (.mv (ki 0))]) (
.ret)))), [.cell 2 true 4, .slot 3]⟩
def n457 : Notes := { anns := [⟨[0, 2, 4, 5], [4], [], [], [], true⟩], frz := [], rgs := [] }
def c458 : CFn := ⟨sq ([
oo 4 (.mv (ki 0))]) (
.seq (.block 0 (.loop ⟨[0, 1, 4], [], [], [], [], true⟩ (.seq (sq ([
om 5 4,
om 6 0,
oo 7 (.len 1 (.t 6)),
ob 8 .lss (.t 5) (.t 7),
om 9 8,
og 10 (.mv (.t 1)) 9,
og 11 (.mv (.t 0)) 9,
og 12 (.mv (.t 4)) 9,
og 13 (.ixs (.t 11) (.t 12)) 9,
og 14 (.callv (.t 10) [.t 13] 4 true) 9,
oo 15 (.pick (.t 9) (.t 14) (kb false))]) (
ct 15 (
.skip) (.exit 0))) (
.block 1 (.region false [
om 16 4,
ob 17 .add (.t 16) (ki 1),
om 4 17]))))) (
sq ([
om 18 4,
om 4 18]) (
.ret))), [.slot 4]⟩
def n458 : Notes := { anns := [⟨[0, 1, 4], [], [], [], [], true⟩], frz := [], rgs := [] }
def c459 : CFn := ⟨sq ([
oo 2 (.mv (kb false))]) (
sq ([
om 3 0,
oo 4 (.bin .neq (.t 3) (.k (.d (.i .u8 10)))),
om 2 4]) (
.ret)), [.slot 2]⟩
def n459 : Notes := { anns := [], frz := [], rgs := [] }
def c460 : CFn := ⟨sq ([
oo 2 (.mv (kb false))]) (
sq ([
om 3 0,
oo 4 (.bin .geq (.t 3) (.k (.d (.i .u8 97)))),
om 5 4,
og 6 (.mv (.t 0)) 5,
og 7 (.bin .leq (.t 6) (.k (.d (.i .u8 122)))) 5,
oo 8 (.pick (.t 5) (.t 7) (kb false)),
om 2 8]) (
.ret)), [.slot 2]⟩
def n460 : Notes := { anns := [], frz := [], rgs := [] }
def c461 : CFn := ⟨sq ([
oo 2 (.mv (kb false))]) (
sq ([
om 3 0,
oo 4 (.call 460 [.t 3] 0 true),
om 5 4,
oh 6 (.mv (.t 0)) 5,
oh 7 (.call 462 [.t 6] 0 true) 5,
oo 8 (.pick (.t 5) (kb true) (.t 7)),
om 2 8]) (
.ret)), [.slot 2]⟩
def n461 : Notes := { anns := [], frz := [], rgs := [] }
def c462 : CFn := ⟨sq ([
oo 2 (.mv (kb false))]) (
sq ([
om 3 0,
oo 4 (.bin .geq (.t 3) (.k (.d (.i .u8 48)))),
om 5 4,
og 6 (.mv (.t 0)) 5,
og 7 (.bin .leq (.t 6) (.k (.d (.i .u8 57)))) 5,
oo 8 (.pick (.t 5) (.t 7) (kb false)),
om 2 8]) (
.ret)), [.slot 2]⟩
def n462 : Notes := { anns := [], frz := [], rgs := [] }
def a10447 : CCode := sq ([
oo 5 (.zero (.agg [(.d (.i .i64 0)), (.d (.s [])), (.d (.i .i64 0)), (.d (.i .i64 0))])),
oz (.st 4 (.t 5) (.t 12)) 0]) (
.region false [
om 6 13])
def b10447 : CCode := .block 1 (.seq (sq ([
om 14 6,
oo 15 (.un .not (.t 14)),
om 16 15,
oh 17 (.ld false 1 (.t 2)) 16,
oh 18 (.len 0 (.t 17)) 16,
oh 19 (.bin .geq (.t 18) (ki 400)) 16,
oo 20 (.pick (.t 16) (kb true) (.t 19))]) (
ct 20 (
.seq (.region true [
oo 21 (fa 3 5),
ow 22 (.ld false 1 (.t 21)) 1,
oz (.st 1 (.t 2) (.k (.nil 4))) 0,
oz (.st 1 (.t 3) (.t 22)) 7,
oz (.st 1 (.t 4) (kb false)) 15]) (
.ret)) (.skip))) (
.region false [
ol 23 false 1 2,
ol 24 true 4 5,
oo 25 (.bsl 4 1 [(.i .i64 0), (.s []), (.i .i64 0), (.i .i64 0)] [(0, .t 24)]),
oo 26 (.app 4 40 (.t 23) (.t 25)),
oz (.st 1 (.t 2) (.t 26)) 0]))
def n10447 : Notes := { anns := [], frz := [], rgs := [] }
end Ab
namespace Ab.Wd
open Go
def isL (c : UInt8) : Bool := decide (97 ≤ c.toNat) && decide (c.toNat ≤ 122)
def isG (c : UInt8) : Bool := decide (48 ≤ c.toNat) && decide (c.toNat ≤ 57)
def isW (c : UInt8) : Bool := isL c || isG c
def isN (c : UInt8) : Bool := decide (c.toNat ≠ 10)
def isB (c : UInt8) : Bool := decide (c.toNat = 32 ∨ c.toNat = 9 ∨ c.toNat = 10)
def spanF (p : UInt8 → Bool) : List UInt8 → Nat
 | [] => 0
 | c :: r => if p c then spanF p r + 1 else 0
def blankG : Bool → List UInt8 → Nat
 | _, [] => 0
 | false, c :: r => if isB c then blankG false r + 1 else if c.toNat = 35 then blankG true r + 1 else 0
 | true, c :: r => if isN c then blankG true r + 1 else blankG false r + 1
def marks : List UInt8 := [123, 125, 40, 41, 61, 46, 58, 59, 62]
abbrev GW := Int × List UInt8 × Int
def oneF : List UInt8 → Option (GW × Nat)
 | [] => none
 | c :: r =>
  if isL c then some ((1, (c :: r).take (spanF isW (c :: r)), 0), spanF isW (c :: r))
  else if isG c then (if 18 < spanF isG (c :: r) then none else match decOf ((c :: r).take (spanF isG (c :: r))) with
   | some m => some ((2, [], (m : Int)), spanF isG (c :: r))
   | none => none)
  else if c.toNat = 34 then match qGo 1 [] r with
   | some (t, n) => some ((3, t, 0), n)
   | none => none
  else if marks.contains c then some ((4, [c], 0), 1)
  else none
def badK : List UInt8 → Int
 | [] => 0
 | c :: _ => if isL c then 0 else if isG c then 0 else if c.toNat = 34 then 3 else 0
def oneV (s : List UInt8) : V := match oneF s with
 | some ((k, t, v), n) => .tup [.agg [.d (.i .i64 k), .d (.s t), .d (.i .i64 v), .d (.i .i64 0)], .d (.i .i64 n), .d (.b true)]
 | none => .tup [.agg [.d (.i .i64 (badK s)), .d (.s []), .d (.i .i64 0), .d (.i .i64 0)], .d (.i .i64 0), .d (.b false)]
abbrev AW := GW × Nat
def rowW (w : AW) : List D := [.i .i64 w.1.1, .s w.1.2.1, .i .i64 w.1.2.2, .i .i64 w.2]
def wordsG : Nat → Nat → Nat → List UInt8 → List AW × Option Nat
 | 0, _, _, _ => ([], none)
 | f + 1, at_, k, s =>
  match s.drop (blankG false s) with
  | [] => ([], none)
  | c :: r => match oneF (c :: r) with
   | none => ([], some (at_ + blankG false s))
   | some (w, n) => if 400 ≤ k then ([], some (at_ + blankG false s)) else
    ((w, at_ + blankG false s) :: (wordsG f (at_ + blankG false s + n) (k + 1) ((c :: r).drop n)).1, (wordsG f (at_ + blankG false s + n) (k + 1) ((c :: r).drop n)).2)
def ansW : List AW × Option Nat → V
 | (l, none) => .tup [.d (.l 4 (l.map rowW)), .d (.i .i64 0), .d (.b true)]
 | (_, some p) => .tup [.d (.l 4 []), .d (.i .i64 p), .d (.b false)]
def allF (s : List UInt8) : List AW × Option Nat := if 1500 < s.length then ([], some 0) else wordsG (s.length + 1) 0 0 s
theorem spanF_le (p : UInt8 → Bool) : ∀ s : List UInt8, spanF p s ≤ s.length
 | [] => Nat.le_refl _
 | c :: r => by
  have := spanF_le p r
  simp only [spanF, List.length_cons]
  split <;> omega
theorem blankG_le : ∀ (b : Bool) (s : List UInt8), blankG b s ≤ s.length
 | b, [] => by cases b <;> exact Nat.le_refl _
 | false, c :: r => by
  have h1 := blankG_le false r
  have h2 := blankG_le true r
  simp only [blankG, List.length_cons]
  split
  ·omega
  ·split <;> omega
 | true, c :: r => by
  have h1 := blankG_le false r
  have h2 := blankG_le true r
  simp only [blankG, List.length_cons]
  split <;> omega
theorem blankG_remark : ∀ s : List UInt8, blankG true s = spanF isN s + blankG false (s.drop (spanF isN s))
 | [] => rfl
 | c :: r => by
  have ih := blankG_remark r
  simp only [blankG, spanF]
  by_cases h : isN c = true
  ·rw [if_pos h, if_pos h, ih, List.drop_succ_cons]; omega
  ·have hc : c.toNat = 10 := by simpa [isN] using h
   have hb : isB c = true := by simp [isB, hc]
   rw [if_neg h, if_neg h, List.drop_zero]
   simp only [blankG]
   rw [if_pos hb]; omega
theorem blank_remark {c : UInt8} {r : List UInt8} (h : c.toNat = 35) : blankG false (c :: r) = spanF isN (c :: r) + blankG false ((c :: r).drop (spanF isN (c :: r))) := by
 have h1 : isB c = false := by simp [isB, h]
 have h2 : isN c = true := by simp [isN, h]
 simp only [blankG, spanF, h1, h2, h, if_true, if_false, Qm, List.drop_succ_cons]
 rw [blankG_remark r]; omega
theorem qGo_le : ∀ (s : List UInt8) (n : Nat) (acc t : List UInt8) (m : Nat), qGo n acc s = some (t, m) → n < m ∧ m ≤ n + s.length ∧ t.length ≤ acc.length + s.length
 | [], n, acc, t, m, h => by simp [qGo] at h
 | c :: r, n, acc, t, m, h => by
  unfold qGo at h
  simp only [List.length_cons] at h ⊢
  split at h
  ·simp only [Qa, Qj] at h
   obtain ⟨rfl, rfl⟩ := h
   omega
  ·split at h
   ·split at h
    ·cases h
    ·rename_i d r'
     split at h
     ·have := qGo_le r' _ _ _ _ h
      simp only [Qg, List.length_cons, List.length_nil] at this ⊢
      omega
     ·cases h
   ·split at h
    ·cases h
    ·have := qGo_le r _ _ _ _ h
     simp only [Qg, List.length_cons, List.length_nil] at this
     omega
theorem oneF_le {s : List UInt8} {w : GW} {n : Nat} (h : oneF s = some (w, n)) : 1 ≤ n ∧ n ≤ s.length := by
 cases s with
 | nil => cases h
 | cons c r =>
  simp only [oneF] at h
  split at h
  ·rename_i hc
   simp only [Qa, Qj] at h
   obtain ⟨_, rfl⟩ := h
   refine ⟨?_, spanF_le _ _⟩
   simp only [spanF, isW, hc, Bool.true_or, if_true]; omega
  ·split at h
   ·rename_i hc
    split at h
    ·cases h
    ·split at h
     ·simp only [Qa, Qj] at h
      obtain ⟨_, rfl⟩ := h
      refine ⟨?_, spanF_le _ _⟩
      simp only [spanF, hc, if_true]; omega
     ·cases h
   ·split at h
    ·split at h
     ·rename_i t m hq
      simp only [Qa, Qj] at h
      obtain ⟨_, rfl⟩ := h
      have := qGo_le r _ _ _ _ hq
      simp only [List.length_cons]; omega
     ·cases h
    ·split at h
     ·simp only [Qa, Qj] at h
      obtain ⟨_, rfl⟩ := h
      simp
     ·cases h
end Ab.Wd
namespace Ab.Wd
open Go
variable {E : Nat → Option Fn}
structure WE (E : Nat → Option Fn) : Prop where
 e296 : E 296 = some (.prim parseImpl)
 e334 : E 334 = some (.prim idxbImpl)
 e463 : E 463 = some (.prim quoteImpl)
 e447 : E 447 = some (.code c447)
 e448 : E 448 = some (.code c448)
 e449 : E 449 = some (.code c449)
 e450 : E 450 = some (.code c450)
 e451 : E 451 = some (.code c451)
 e452 : E 452 = some (.code c452)
 e453 : E 453 = some (.code c453)
 e454 : E 454 = some (.code c454)
 e455 : E 455 = some (.code c455)
 e456 : E 456 = some (.code c456)
 e457 : E 457 = some (.code c457)
 e458 : E 458 = some (.code c458)
 e459 : E 459 = some (.code c459)
 e460 : E 460 = some (.code c460)
 e461 : E 461 = some (.code c461)
 e462 : E 462 = some (.code c462)
 e10447 : E 10447 = some (.round [12, 13] [2, 3, 4] a10447 b10447)
abbrev uc (c : UInt8) : V := .d (.i .u8 c.toNat)
theorem isL_int (c : UInt8) : isL c = (decide ((97 : Int) ≤ (c.toNat : Int)) && decide ((c.toNat : Int) ≤ 122)) := by
 unfold isL; congr 1 <;> (apply decide_eq_decide.2; omega)
theorem isG_int (c : UInt8) : isG c = (decide ((48 : Int) ≤ (c.toNat : Int)) && decide ((c.toNat : Int) ≤ 57)) := by
 unfold isG; congr 1 <;> (apply decide_eq_decide.2; omega)
theorem letter_ok (w : WE E) (c : UInt8) : lcall E 460 [uc c] [] = some (.d (.b (isL c)), []) := by
 refine call_q w.e460 ?_
 rw [isL_int]
 by_cases h : (97 : Int) ≤ c.toNat
 ·simp only [evAll, Nat.reduceBEq, ↓reduceIte, Nat.reduceEqDiff, Nat.reduceAdd, Nat.reduceLeDiff, Nat.reduceSub, Nat.reduceLT, reduceCtorEq, Int.reduceEq, Int.reduceLT, Int.reduceLE, Int.reduceNeg, loopQ, Int.reduceToNat, Nat.reduceMul, List.range'_one, c460, eq_true h, Bool.true_and]
 ·simp only [evAll, Nat.reduceBEq, ↓reduceIte, Nat.reduceEqDiff, Nat.reduceAdd, Nat.reduceLeDiff, Nat.reduceSub, Nat.reduceLT, reduceCtorEq, Int.reduceEq, Int.reduceLT, Int.reduceLE, Int.reduceNeg, loopQ, Int.reduceToNat, Nat.reduceMul, List.range'_one, c460, h, Bool.false_and]
theorem digit_ok (w : WE E) (c : UInt8) : lcall E 462 [uc c] [] = some (.d (.b (isG c)), []) := by
 refine call_q w.e462 ?_
 rw [isG_int]
 by_cases h : (48 : Int) ≤ c.toNat
 ·simp only [evAll, Nat.reduceBEq, ↓reduceIte, Nat.reduceEqDiff, Nat.reduceAdd, Nat.reduceLeDiff, Nat.reduceSub, Nat.reduceLT, reduceCtorEq, Int.reduceEq, Int.reduceLT, Int.reduceLE, Int.reduceNeg, loopQ, Int.reduceToNat, Nat.reduceMul, List.range'_one, c462, eq_true h, Bool.true_and]
 ·simp only [evAll, Nat.reduceBEq, ↓reduceIte, Nat.reduceEqDiff, Nat.reduceAdd, Nat.reduceLeDiff, Nat.reduceSub, Nat.reduceLT, reduceCtorEq, Int.reduceEq, Int.reduceLT, Int.reduceLE, Int.reduceNeg, loopQ, Int.reduceToNat, Nat.reduceMul, List.range'_one, c462, h, Bool.false_and]
theorem name_ok (w : WE E) (c : UInt8) : lcall E 461 [uc c] [] = some (.d (.b (isW c)), []) := by
 refine call_q w.e461 ?_
 have c1 := letter_ok w c
 have c2 := digit_ok w c
 unfold isW
 cases h : isL c with
 | true => rw [h] at c1; simp only [evAll, Nat.reduceBEq, ↓reduceIte, Nat.reduceEqDiff, Nat.reduceAdd, Nat.reduceLeDiff, Nat.reduceSub, Nat.reduceLT, reduceCtorEq, Int.reduceEq, Int.reduceLT, Int.reduceLE, Int.reduceNeg, loopQ, Int.reduceToNat, Nat.reduceMul, List.range'_one, c461, c1, Bool.true_or]
 | false => rw [h] at c1; simp only [evAll, Nat.reduceBEq, ↓reduceIte, Nat.reduceEqDiff, Nat.reduceAdd, Nat.reduceLeDiff, Nat.reduceSub, Nat.reduceLT, reduceCtorEq, Int.reduceEq, Int.reduceLT, Int.reduceLE, Int.reduceNeg, loopQ, Int.reduceToNat, Nat.reduceMul, List.range'_one, c461, c1, c2, Bool.false_or]
theorem notEnd_ok (w : WE E) (c : UInt8) : lcall E 459 [uc c] [] = some (.d (.b (isN c)), []) := by
 refine call_q w.e459 ?_
 by_cases h : (c.toNat : Int) = 10
 ·have : isN c = false := by simp [isN]; omega
  rw [this]
  simp only [evAll, Nat.reduceBEq, ↓reduceIte, Nat.reduceEqDiff, Nat.reduceAdd, Nat.reduceLeDiff, Nat.reduceSub, Nat.reduceLT, reduceCtorEq, Int.reduceEq, Int.reduceLT, Int.reduceLE, Int.reduceNeg, loopQ, Int.reduceToNat, Nat.reduceMul, List.range'_one, c459, eq_true h, not_true_eq_false, decide_false]
 ·have : isN c = true := by simp [isN]; omega
  rw [this]
  simp only [evAll, Nat.reduceBEq, ↓reduceIte, Nat.reduceEqDiff, Nat.reduceAdd, Nat.reduceLeDiff, Nat.reduceSub, Nat.reduceLT, reduceCtorEq, Int.reduceEq, Int.reduceLT, Int.reduceLE, Int.reduceNeg, loopQ, Int.reduceToNat, Nat.reduceMul, List.range'_one, c459, h, not_false_eq_true, decide_true]
def spanLoop : CCode := match c458.body with
 | .seq _ (.seq (.block _ (.loop _ c)) _) => c
 | _ => .skip
theorem span_loop (w : WE E) {kf : Nat} {p : UInt8 → Bool} (hp : ∀ c, lcall E kf [uc c] [] = some (.d (.b (p c)), [])) {s : List UInt8} (hs : s.length ≤ 100000) {Q : Ex → St → Prop} : ∀ (m i : Nat), i + m = s.length →
  (∀ tm hp, look tm 4 = .d (.i .i64 (i + spanF p (s.drop i) : Nat)) → Q (.exit 0) ⟨tm, hp⟩) →
  LX E spanLoop ⟨[0, 1, 4], [], [], [], [], true⟩ 0 ⟨[(0, .d (.s s)), (1, .d (.f kf [] [])), (4, .d (.i .i64 i))], []⟩ Q := by
 intro m
 induction m with
 | zero =>
  intro i hi hQ
  have hn : ¬ ((i : Int) < s.length) := by omega
  rw [List.drop_eq_nil_of_le (by omega)] at hQ
  refine lx_step ?_
  simp only [evAll, Nat.reduceBEq, ↓reduceIte, Nat.reduceEqDiff, Nat.reduceAdd, Nat.reduceLeDiff, Nat.reduceSub, Nat.reduceLT, reduceCtorEq, Int.reduceEq, Int.reduceLT, Int.reduceLE, Int.reduceNeg, loopQ, Int.reduceToNat, Nat.reduceMul, List.range'_one, spanLoop, c458, hn]
  exact hQ _ _ (by simp only [spanF, Nat.add_zero]; rfl)
 | succ m ih =>
  intro i hi hQ
  have hy : (i : Int) < s.length := by omega
  have la : i < s.length := by omega
  have h0 : (0 : Int) ≤ i := by omega
  have ga : s[i]? = some s[i] := Qd la
  have wr : IntKind.i64.wrap ((i : Int) + 1) = ((i + 1 : Nat) : Int) := by rw [i64w (by omega) (by omega)]; omega
  have c1 := hp s[i]
  rw [List.drop_eq_getElem_cons la] at hQ
  generalize s[i] = c at *
  refine lx_step ?_
  cases hc : p c with
  | false =>
   rw [hc] at c1
   simp only [spanF, hc, Qm, if_false, Nat.add_zero] at hQ
   simp only [evAll, Nat.reduceBEq, ↓reduceIte, Nat.reduceEqDiff, Nat.reduceAdd, Nat.reduceLeDiff, Nat.reduceSub, Nat.reduceLT, reduceCtorEq, Int.reduceEq, Int.reduceLT, Int.reduceLE, Int.reduceNeg, loopQ, Int.reduceToNat, Nat.reduceMul, List.range'_one, spanLoop, c458, eq_true hy, h0, ga, c1]
   exact hQ _ _ rfl
  | true =>
   rw [hc] at c1
   simp only [spanF, hc, if_true] at hQ
   simp only [evAll, Nat.reduceBEq, ↓reduceIte, Nat.reduceEqDiff, Nat.reduceAdd, Nat.reduceLeDiff, Nat.reduceSub, Nat.reduceLT, reduceCtorEq, Int.reduceEq, Int.reduceLT, Int.reduceLE, Int.reduceNeg, loopQ, Int.reduceToNat, Nat.reduceMul, List.range'_one, spanLoop, c458, eq_true hy, h0, ga, c1, wr]
   refine ⟨_, rfl, ih (i + 1) (by omega) (fun tm hp h => hQ tm hp ?_)⟩
   rw [h, show i + 1 + spanF p (s.drop (i + 1)) = i + (spanF p (s.drop (i + 1)) + 1) by omega]
theorem span_ok (w : WE E) {kf : Nat} {p : UInt8 → Bool} (hp : ∀ c, lcall E kf [uc c] [] = some (.d (.b (p c)), [])) {s : List UInt8} (hs : s.length ≤ 100000) : lcall E 458 [.d (.s s), .d (.f kf [] [])] [] = some (.d (.i .i64 (spanF p s : Nat)), []) := by
 refine call_q w.e458 ?_
 simp only [evAll, Nat.reduceBEq, ↓reduceIte, Nat.reduceEqDiff, Nat.reduceAdd, Nat.reduceLeDiff, Nat.reduceSub, Nat.reduceLT, reduceCtorEq, Int.reduceEq, Int.reduceLT, Int.reduceLE, Int.reduceNeg, loopQ, Int.reduceToNat, Nat.reduceMul, List.range'_one, c458]
 refine span_loop w hp hs s.length 0 (by omega) (fun tm hp h => ?_)
 rw [Nat.zero_add, List.drop_zero] at h
 simp only [evAll, Nat.reduceBEq, ↓reduceIte, Nat.reduceEqDiff, Nat.reduceAdd, Nat.reduceLeDiff, Nat.reduceSub, Nat.reduceLT, reduceCtorEq, Int.reduceEq, Int.reduceLT, Int.reduceLE, Int.reduceNeg, loopQ, Int.reduceToNat, Nat.reduceMul, List.range'_one, h]
def blankLoop : CCode := match c453.body with
 | .seq _ (.seq (.block _ (.loop _ c)) _) => c
 | _ => .skip
theorem blank_loop (w : WE E) {s : List UInt8} (hs : s.length ≤ 100000) {Q : Ex → St → Prop} (hr : ∀ tm, look tm 2 = .d (.i .i64 (blankG false s : Nat)) → Q .ret ⟨tm, []⟩) (hx : ∀ tm, look tm 2 = .d (.i .i64 (blankG false s : Nat)) → Q (.exit 0) ⟨tm, []⟩) : ∀ (m i : Nat), i ≤ s.length → s.length < i + m →
  blankG false s = i + blankG false (s.drop i) →
  LX E blankLoop ⟨[0, 2], [], [], [], [], true⟩ 0 ⟨[(0, .d (.s s)), (2, .d (.i .i64 i))], []⟩ Q := by
 intro m
 induction m with
 | zero => intro i hi h; omega
 | succ m ih =>
  intro i hi hm hb
  by_cases hlt : i < s.length
  ·have hy : (i : Int) < s.length := by omega
   have h0 : (0 : Int) ≤ i := by omega
   have ga : s[i]? = some s[i] := Qd hlt
   have wr : IntKind.i64.wrap ((i : Int) + 1) = ((i + 1 : Nat) : Int) := by rw [i64w (by omega) (by omega)]; omega
   have hd : s.drop i = s[i] :: s.drop (i + 1) := List.drop_eq_getElem_cons hlt
   generalize s[i] = c at *
   refine lx_step ?_
   by_cases b1 : (c.toNat : Int) = 32
   ·have hc : isB c = true := by simp [isB]; omega
    rw [hd] at hb; simp only [blankG, hc, if_true] at hb
    simp only [evAll, Nat.reduceBEq, ↓reduceIte, Nat.reduceEqDiff, Nat.reduceAdd, Nat.reduceLeDiff, Nat.reduceSub, Nat.reduceLT, reduceCtorEq, Int.reduceEq, Int.reduceLT, Int.reduceLE, Int.reduceNeg, loopQ, Int.reduceToNat, Nat.reduceMul, List.range'_one, blankLoop, c453, eq_true hy, h0, ga, eq_true b1, wr]
    exact ⟨_, rfl, ih (i + 1) (by omega) (by omega) (by omega)⟩
   by_cases b2 : (c.toNat : Int) = 9
   ·have hc : isB c = true := by simp [isB]; omega
    rw [hd] at hb; simp only [blankG, hc, if_true] at hb
    simp only [evAll, Nat.reduceBEq, ↓reduceIte, Nat.reduceEqDiff, Nat.reduceAdd, Nat.reduceLeDiff, Nat.reduceSub, Nat.reduceLT, reduceCtorEq, Int.reduceEq, Int.reduceLT, Int.reduceLE, Int.reduceNeg, loopQ, Int.reduceToNat, Nat.reduceMul, List.range'_one, blankLoop, c453, eq_true hy, h0, ga, b1, eq_true b2, wr]
    exact ⟨_, rfl, ih (i + 1) (by omega) (by omega) (by omega)⟩
   by_cases b3 : (c.toNat : Int) = 10
   ·have hc : isB c = true := by simp [isB]; omega
    rw [hd] at hb; simp only [blankG, hc, if_true] at hb
    simp only [evAll, Nat.reduceBEq, ↓reduceIte, Nat.reduceEqDiff, Nat.reduceAdd, Nat.reduceLeDiff, Nat.reduceSub, Nat.reduceLT, reduceCtorEq, Int.reduceEq, Int.reduceLT, Int.reduceLE, Int.reduceNeg, loopQ, Int.reduceToNat, Nat.reduceMul, List.range'_one, blankLoop, c453, eq_true hy, h0, ga, b1, b2, eq_true b3, wr]
    exact ⟨_, rfl, ih (i + 1) (by omega) (by omega) (by omega)⟩
   have hc : isB c = false := by simp [isB]; omega
   by_cases b4 : (c.toNat : Int) = 35
   ·have c1 := span_ok w (notEnd_ok w) (s := s.drop i) (by rw [List.length_drop]; omega)
    have hle := spanF_le isN (s.drop i)
    rw [List.length_drop] at hle
    have e1 := blank_remark (c := c) (r := s.drop (i + 1)) (by omega)
    rw [← hd] at e1
    rw [List.drop_drop] at e1
    have hpos : 1 ≤ spanF isN (s.drop i) := by
     rw [hd]; simp only [spanF]
     rw [if_pos (by simp [isN]; omega)]; omega
    have wr2 : IntKind.i64.wrap ((i : Int) + (spanF isN (s.drop i) : Nat)) = ((i + spanF isN (s.drop i) : Nat) : Int) := by rw [i64w (by omega) (by omega)]; omega
    have hle2 : (i : Int) ≤ (s.length : Nat) := by omega
    generalize spanF isN (s.drop i) = k at *
    have htk : s.take s.length = s := List.take_length
    simp only [evAll, Nat.reduceBEq, ↓reduceIte, Nat.reduceEqDiff, Nat.reduceAdd, Nat.reduceLeDiff, Nat.reduceSub, Nat.reduceLT, reduceCtorEq, Int.reduceEq, Int.reduceLT, Int.reduceLE, Int.reduceNeg, loopQ, Int.reduceToNat, Nat.reduceMul, List.range'_one, blankLoop, c453, eq_true hy, h0, ga, b1, b2, b3, eq_true b4, c1, wr2, eq_true hle2, Int.le_refl, and_self, and_true, true_and, Qk, htk]
    exact ⟨_, rfl, ih (i + k) (by omega) (by omega) (by omega)⟩
   ·have e0 : blankG false s = i := by
     rw [hb, hd]; simp only [blankG, hc, Qm, if_false]
     rw [if_neg (by omega)]; omega
    simp only [evAll, Nat.reduceBEq, ↓reduceIte, Nat.reduceEqDiff, Nat.reduceAdd, Nat.reduceLeDiff, Nat.reduceSub, Nat.reduceLT, reduceCtorEq, Int.reduceEq, Int.reduceLT, Int.reduceLE, Int.reduceNeg, loopQ, Int.reduceToNat, Nat.reduceMul, List.range'_one, blankLoop, c453, eq_true hy, h0, ga, b1, b2, b3, b4]
    refine hr _ ?_
    rw [e0]; rfl
  ·have hn : ¬ ((i : Int) < s.length) := by omega
   have e0 : blankG false s = i := by rw [hb, List.drop_eq_nil_of_le (by omega)]; simp [blankG]
   refine lx_step ?_
   simp only [evAll, Nat.reduceBEq, ↓reduceIte, Nat.reduceEqDiff, Nat.reduceAdd, Nat.reduceLeDiff, Nat.reduceSub, Nat.reduceLT, reduceCtorEq, Int.reduceEq, Int.reduceLT, Int.reduceLE, Int.reduceNeg, loopQ, Int.reduceToNat, Nat.reduceMul, List.range'_one, blankLoop, c453, hn]
   refine hx _ ?_
   rw [e0]; rfl
theorem blank_ok (w : WE E) {s : List UInt8} (hs : s.length ≤ 100000) : lcall E 453 [.d (.s s)] [] = some (.d (.i .i64 (blankG false s : Nat)), []) := by
 refine call_q w.e453 ?_
 simp only [evAll, Nat.reduceBEq, ↓reduceIte, Nat.reduceEqDiff, Nat.reduceAdd, Nat.reduceLeDiff, Nat.reduceSub, Nat.reduceLT, reduceCtorEq, Int.reduceEq, Int.reduceLT, Int.reduceLE, Int.reduceNeg, loopQ, Int.reduceToNat, Nat.reduceMul, List.range'_one, c453]
 refine blank_loop w hs (fun tm h => ?_) (fun tm h => ?_) (s.length + 1) 0 (by omega) (by omega) (by rw [List.drop_zero]; omega)
 ·simp only [evAll, Nat.reduceBEq, ↓reduceIte, Nat.reduceEqDiff, Nat.reduceAdd, Nat.reduceLeDiff, Nat.reduceSub, Nat.reduceLT, reduceCtorEq, Int.reduceEq, Int.reduceLT, Int.reduceLE, Int.reduceNeg, loopQ, Int.reduceToNat, Nat.reduceMul, List.range'_one, h]
 ·simp only [evAll, Nat.reduceBEq, ↓reduceIte, Nat.reduceEqDiff, Nat.reduceAdd, Nat.reduceLeDiff, Nat.reduceSub, Nat.reduceLT, reduceCtorEq, Int.reduceEq, Int.reduceLT, Int.reduceLE, Int.reduceNeg, loopQ, Int.reduceToNat, Nat.reduceMul, List.range'_one, h]
end Ab.Wd
namespace Ab.Wd
open Go
variable {E : Nat → Option Fn}
theorem decGo_digits : ∀ (s : List UInt8) (acc : Nat), (∀ c ∈ s, isG c = true) → ∃ m, decGo acc s = some m
 | [], acc, _ => ⟨acc, rfl⟩
 | c :: r, acc, h => by
  have hc := h c List.mem_cons_self
  simp only [isG, Qi, Qh] at hc
  simp only [decGo]
  rw [if_pos hc]
  exact decGo_digits r _ fun d hd => h d (List.mem_cons_of_mem _ hd)
theorem take_span (p : UInt8 → Bool) : ∀ s : List UInt8, ∀ c ∈ s.take (spanF p s), p c = true
 | [], c, h => by simp [spanF] at h
 | d :: r, c, h => by
  simp only [spanF] at h
  split at h
  ·rename_i hd
   rw [List.take_succ_cons] at h
   rcases List.mem_cons.1 h with rfl | h
   ·exact hd
   ·exact take_span p r c h
  ·simp at h
theorem dec_span {c : UInt8} {r : List UInt8} (hc : isG c = true) (h : spanF isG (c :: r) ≤ 18) : ∃ m : Nat, decOf ((c :: r).take (spanF isG (c :: r))) = some m := by
 have e : (c :: r).take (spanF isG (c :: r)) = c :: r.take (spanF isG r) := by simp only [spanF, hc, if_true, List.take_succ_cons]
 obtain ⟨m, hm⟩ := decGo_digits ((c :: r).take (spanF isG (c :: r))) 0 (take_span isG (c :: r))
 refine ⟨m, ?_⟩
 rw [e] at hm ⊢
 unfold decOf
 simp only
 rw [if_pos (by rw [← e, List.length_take]; omega)]
 exact hm
theorem parse_call (w : WE E) {x : List UInt8} {m : Nat} (h : decOf x = some m) : lcall E 296 [.d (.s x), .d (.i .i64 10), .d (.i .i64 64)] [] = some (.tup [.d (.i .i64 m), .bad], []) := by
 rw [lcall_prim w.e296]
 simp only [parseImpl, h, and_self, if_true]
theorem quote_call (w : WE E) {s : List UInt8} (h : s.length ≤ 100000) : lcall E 463 [.d (.s s)] [] = some (quoteV s, []) := by
 rw [lcall_prim w.e463]
 simp only [quoteImpl, h, if_true]
theorem marks_call (w : WE E) (c : UInt8) : lcall E 334 [.d (.s [123, 125, 40, 41, 61, 46, 58, 59, 62]), uc c] [] = some (.d (.i .i64 (idxGo c 0 marks)), []) := by
 rw [lcall_prim w.e334]
 have h1 : (0 : Int) ≤ c.toNat := by omega
 have h2 : (c.toNat : Int) ≤ 255 := by have := c.toBitVec.isLt; have e : c.toNat = c.toBitVec.toNat := rfl; omega
 have h3 : ((c.toNat : Int)).toNat.toUInt8 = c := by rw [Qk]; simp
 simp only [idxbImpl, h1, h2, and_self, true_and, if_true, h3]
 rfl
theorem idx_marks (c : UInt8) : (0 ≤ idxGo c 0 marks) ↔ marks.contains c = true := by
 have key : ∀ (l : List UInt8) (i : Nat), 0 ≤ idxGo c i l ↔ l.contains c = true := by
  intro l
  induction l with
  | nil => intro i; simp [idxGo]
  | cons b l ih =>
   intro i
   simp only [idxGo]
   by_cases h : b = c
   ·simp [h]
   ·rw [if_neg h, ih]
    have h' : ¬ c = b := fun e => h e.symm
    simp [h']
 exact key _ _
theorem one_ok (w : WE E) {c : UInt8} {r : List UInt8} (hs : (c :: r).length ≤ 100000) : lcall E 454 [.d (.s (c :: r))] [] = some (oneV (c :: r), []) := by
 refine call_q w.e454 ?_
 have h0 : (0 : Int) ≤ 0 := Int.le_refl 0
 have g0 : (c :: r)[(0 : Int).toNat]? = some c := rfl
 have g0' : (c :: r)[0]? = some c := rfl
 have l0 : (0 : Int) ≤ ((c :: r).length : Nat) := by omega
 have l1 : (1 : Int) ≤ ((c :: r).length : Nat) := by simp; omega
 have cl := letter_ok w c
 cases hL : isL c with
 | true =>
  rw [hL] at cl
  have c1 := span_ok w (name_ok w) (s := c :: r) hs
  have hle := spanF_le isW (c :: r)
  have e : oneV (c :: r) = .tup [.agg [.d (.i .i64 1), .d (.s ((c :: r).take (spanF isW (c :: r)))), .d (.i .i64 0), .d (.i .i64 0)], .d (.i .i64 (spanF isW (c :: r) : Nat)), .d (.b true)] := by
   simp only [oneV, oneF, hL, if_true]
  rw [e]
  generalize spanF isW (c :: r) = k at *
  have k0 : (0 : Int) ≤ (k : Nat) := by omega
  have k1 : (k : Int) ≤ ((c :: r).length : Nat) := by omega
  generalize hz : c :: r = z at *
  simp only [evAll, Nat.reduceBEq, ↓reduceIte, Nat.reduceEqDiff, Nat.reduceAdd, Nat.reduceLeDiff, Nat.reduceSub, Nat.reduceLT, reduceCtorEq, Int.reduceEq, Int.reduceLT, Int.reduceLE, Int.reduceNeg, loopQ, Int.reduceToNat, Nat.reduceMul, List.range'_one, c454, h0, g0, g0', cl, c1, k0, k1, Int.le_refl, and_self, and_true, true_and, Qk, List.drop_zero]
 | false =>
  rw [hL] at cl
  have cg := digit_ok w c
  cases hG : isG c with
  | true =>
   rw [hG] at cg
   have c1 := span_ok w (digit_ok w) (s := c :: r) hs
   have hle := spanF_le isG (c :: r)
   by_cases h18 : 18 < spanF isG (c :: r)
   ·have e : oneV (c :: r) = .tup [.agg [.d (.i .i64 0), .d (.s []), .d (.i .i64 0), .d (.i .i64 0)], .d (.i .i64 0), .d (.b false)] := by
     simp only [oneV, oneF, badK, hL, hG, h18, if_true, Qm, if_false]
    rw [e]
    generalize spanF isG (c :: r) = k at *
    have k0 : (18 : Int) < (k : Nat) := by omega
    generalize hz : c :: r = z at *
    simp only [evAll, Nat.reduceBEq, ↓reduceIte, Nat.reduceEqDiff, Nat.reduceAdd, Nat.reduceLeDiff, Nat.reduceSub, Nat.reduceLT, reduceCtorEq, Int.reduceEq, Int.reduceLT, Int.reduceLE, Int.reduceNeg, loopQ, Int.reduceToNat, Nat.reduceMul, List.range'_one, c454, h0, g0, g0', cl, cg, c1, eq_true k0]
   ·obtain ⟨m, hm⟩ := dec_span (r := r) hG (by omega)
    have c2 := parse_call w hm
    have vb : valIds 0 V.bad = [] := rfl
    have e : oneV (c :: r) = .tup [.agg [.d (.i .i64 2), .d (.s []), .d (.i .i64 m), .d (.i .i64 0)], .d (.i .i64 (spanF isG (c :: r) : Nat)), .d (.b true)] := by
     simp only [oneV, oneF, hL, hG, h18, hm, if_true, Qm, if_false]
    rw [e]
    generalize spanF isG (c :: r) = k at *
    have k18 : ¬ (18 : Int) < (k : Nat) := by omega
    have k0 : (0 : Int) ≤ (k : Nat) := by omega
    have k1 : (k : Int) ≤ ((c :: r).length : Nat) := by omega
    generalize hz : c :: r = z at *
    simp only [evAll, Nat.reduceBEq, ↓reduceIte, Nat.reduceEqDiff, Nat.reduceAdd, Nat.reduceLeDiff, Nat.reduceSub, Nat.reduceLT, reduceCtorEq, Int.reduceEq, Int.reduceLT, Int.reduceLE, Int.reduceNeg, loopQ, Int.reduceToNat, Nat.reduceMul, List.range'_one, c454, h0, g0, g0', cl, cg, c1, k18, c2, vb, k0, k1, Int.le_refl, and_self, and_true, true_and, Qk, List.drop_zero]
  | false =>
   rw [hG] at cg
   by_cases h34 : (c.toNat : Int) = 34
   ·have c1 := quote_call w (s := c :: r) hs
    have h34' : c.toNat = 34 := by omega
    cases hq : qGo 1 [] r with
    | none =>
     have e : oneV (c :: r) = .tup [.agg [.d (.i .i64 3), .d (.s []), .d (.i .i64 0), .d (.i .i64 0)], .d (.i .i64 0), .d (.b false)] := by
      simp only [oneV, oneF, badK, hL, hG, h34', hq, if_true, Qm, if_false]
     have e2 : quoteV (c :: r) = .tup [.d (.s []), .d (.i .i64 0), .d (.b false)] := by simp only [quoteV, List.drop_succ_cons, List.drop_zero, hq]
     rw [e]; rw [e2] at c1
     generalize hz : c :: r = z at *
     simp only [evAll, Nat.reduceBEq, ↓reduceIte, Nat.reduceEqDiff, Nat.reduceAdd, Nat.reduceLeDiff, Nat.reduceSub, Nat.reduceLT, reduceCtorEq, Int.reduceEq, Int.reduceLT, Int.reduceLE, Int.reduceNeg, loopQ, Int.reduceToNat, Nat.reduceMul, List.range'_one, c454, h0, g0, g0', cl, cg, eq_true h34, c1]
    | some p =>
     obtain ⟨t, n⟩ := p
     have e : oneV (c :: r) = .tup [.agg [.d (.i .i64 3), .d (.s t), .d (.i .i64 0), .d (.i .i64 0)], .d (.i .i64 n), .d (.b true)] := by
      simp only [oneV, oneF, badK, hL, hG, h34', hq, if_true, Qm, if_false]
     have e2 : quoteV (c :: r) = .tup [.d (.s t), .d (.i .i64 n), .d (.b true)] := by simp only [quoteV, List.drop_succ_cons, List.drop_zero, hq]
     rw [e]; rw [e2] at c1
     generalize hz : c :: r = z at *
     simp only [evAll, Nat.reduceBEq, ↓reduceIte, Nat.reduceEqDiff, Nat.reduceAdd, Nat.reduceLeDiff, Nat.reduceSub, Nat.reduceLT, reduceCtorEq, Int.reduceEq, Int.reduceLT, Int.reduceLE, Int.reduceNeg, loopQ, Int.reduceToNat, Nat.reduceMul, List.range'_one, c454, h0, g0, g0', cl, cg, eq_true h34, c1]
   ·have c1 := marks_call w c
    have h34' : ¬ c.toNat = 34 := by omega
    have hm := idx_marks c
    by_cases hi : 0 ≤ idxGo c 0 marks
    ·have e : oneV (c :: r) = .tup [.agg [.d (.i .i64 4), .d (.s [c]), .d (.i .i64 0), .d (.i .i64 0)], .d (.i .i64 1), .d (.b true)] := by
      simp only [oneV, oneF, badK, hL, hG, h34', hm.1 hi, if_true, Qm, if_false]
      rfl
     rw [e]
     have t1 : (c :: r).take (1 : Int).toNat = [c] := rfl
     have t1' : (c :: r).take 1 = [c] := rfl
     generalize idxGo c 0 marks = k at *
     generalize hz : c :: r = z at *
     simp only [evAll, Nat.reduceBEq, ↓reduceIte, Nat.reduceEqDiff, Nat.reduceAdd, Nat.reduceLeDiff, Nat.reduceSub, Nat.reduceLT, reduceCtorEq, Int.reduceEq, Int.reduceLT, Int.reduceLE, Int.reduceNeg, loopQ, Int.reduceToNat, Nat.reduceMul, List.range'_one, c454, h0, g0, g0', cl, cg, h34, c1, ge_iff_le, eq_true hi, l1, Int.le_refl, and_self, and_true, true_and, Qk, List.drop_zero, t1, t1', Int.reduceLE]
    ·have hc : marks.contains c = false := by
      cases h : marks.contains c with
      | false => rfl
      | true => exact absurd (hm.2 h) hi
     have e : oneV (c :: r) = .tup [.agg [.d (.i .i64 0), .d (.s []), .d (.i .i64 0), .d (.i .i64 0)], .d (.i .i64 0), .d (.b false)] := by
      simp only [oneV, oneF, badK, hL, hG, h34', hc, if_true, Qm, if_false]
     rw [e]
     generalize idxGo c 0 marks = k at *
     generalize hz : c :: r = z at *
     simp only [evAll, Nat.reduceBEq, ↓reduceIte, Nat.reduceEqDiff, Nat.reduceAdd, Nat.reduceLeDiff, Nat.reduceSub, Nat.reduceLT, reduceCtorEq, Int.reduceEq, Int.reduceLT, Int.reduceLE, Int.reduceNeg, loopQ, Int.reduceToNat, Nat.reduceMul, List.range'_one, c454, h0, g0, g0', cl, cg, h34, c1, ge_iff_le, hi]
end Ab.Wd
namespace Ab.Wd
open Go
variable {E : Nat → Option Fn}
end Ab.Wd
namespace Ab.Wd
open Go
variable {E : Nat → Option Fn}
end Ab.Wd
namespace Ab.Wd
open Go
variable {E : Nat → Option Fn}
def joinW (l : List AW) (x : List AW × Option Nat) : List AW × Option Nat := (l ++ x.1, x.2)
theorem wordsG_skip {f at_ k n : Nat} {s : List UInt8} (h : blankG false s = n + blankG false (s.drop n)) : wordsG f at_ k s = wordsG f (at_ + n) k (s.drop n) := by
 cases f with
 | zero => rfl
 | succ f =>
  have e1 : (s.drop n).drop (blankG false (s.drop n)) = s.drop (blankG false s) := by rw [List.drop_drop, h]
  have e2 : at_ + n + blankG false (s.drop n) = at_ + blankG false s := by rw [h]; omega
  simp only [wordsG, e1, e2]
theorem wordsG_nil (f at_ k : Nat) : wordsG f at_ k [] = ([], none) := by
 cases f with
 | zero => rfl
 | succ f => simp [wordsG, blankG]
theorem wordsG_word {f at_ k : Nat} {c : UInt8} {r : List UInt8} (h0 : blankG false (c :: r) = 0) : wordsG (f + 1) at_ k (c :: r) = match oneF (c :: r) with
   | none => ([], some at_)
   | some (w, n) => if 400 ≤ k then ([], some at_) else ((w, at_) :: (wordsG f (at_ + n) (k + 1) ((c :: r).drop n)).1, (wordsG f (at_ + n) (k + 1) ((c :: r).drop n)).2) := by
 simp only [wordsG, h0, List.drop_zero, Nat.add_zero] <;> rfl
abbrev tk4 : Option Obj := some (.tok 0 4)
end Ab.Wd
namespace Ab.Wd
open Go
variable {E : Nat → Option Fn}
theorem eqRowW (x : AW) : eqDs [CK.i, .s, .i, .i] (rowW x) (rowW x) = some true := by
 simp [rowW, eqDs, eqD]
def swLoop : CCode := match c449.body with
 | .seq _ (.seq _ (.seq (.seq _ (.block _ (.loop _ c))) _)) => c
 | _ => .skip
theorem sw_loop (w : WE E) {l : List AW} (hl : l.length ≤ 100000) {Q : Ex → St → Prop} (hQ : ∀ tm, Q (.exit 0) ⟨tm, []⟩) : ∀ (m i : Nat), i + m = l.length →
  LX E swLoop ⟨[0, 1, 5], [], [], [], [], true⟩ 0 ⟨[(0, .d (.l 4 (l.map rowW))), (1, .d (.l 4 (l.map rowW))), (5, .d (.i .i64 i))], []⟩ Q := by
 intro m
 induction m with
 | zero =>
  intro i hi
  have hn : ¬ ((i : Int) < (l.length : Nat)) := by omega
  refine lx_step ?_
  simp only [evAll, Nat.reduceBEq, ↓reduceIte, Nat.reduceEqDiff, Nat.reduceAdd, Nat.reduceLeDiff, Nat.reduceSub, Nat.reduceLT, reduceCtorEq, Int.reduceEq, Int.reduceLT, Int.reduceLE, Int.reduceNeg, loopQ, Int.reduceToNat, Nat.reduceMul, List.range'_one, swLoop, c449, Qf, hn]
  exact hQ _
 | succ m ih =>
  intro i hi
  have hy : (i : Int) < (l.length : Nat) := by omega
  have la : i < l.length := by omega
  have h0 : (0 : Int) ≤ i := by omega
  have ga : (l.map rowW)[i]? = some (rowW l[i]) := by rw [List.getElem?_map, Qd la]; rfl
  have wr : IntKind.i64.wrap ((i : Int) + 1) = ((i + 1 : Nat) : Int) := by rw [i64w (by omega) (by omega)]; omega
  have ih' := ih (i + 1) (by omega)
  obtain ⟨⟨⟨k, t, v⟩, p⟩, he⟩ : ∃ x : AW, l[i] = x := ⟨_, rfl⟩
  rw [he] at ga
  have ee := eqRowW ((k, t, v), p)
  simp only [rowW] at ga ee
  refine lx_step ?_
  simp only [evAll, Nat.reduceBEq, ↓reduceIte, Nat.reduceEqDiff, Nat.reduceAdd, Nat.reduceLeDiff, Nat.reduceSub, Nat.reduceLT, reduceCtorEq, Int.reduceEq, Int.reduceLT, Int.reduceLE, Int.reduceNeg, loopQ, Int.reduceToNat, Nat.reduceMul, List.range'_one, swLoop, c449, Qf, eq_true hy, h0, ga, ee, wr]
  exact ⟨by rfl, _, rfl, ih'⟩
theorem same_refl (w : WE E) {l : List AW} (hl : l.length ≤ 100000) : lcall E 449 [.d (.l 4 (l.map rowW)), .d (.l 4 (l.map rowW))] [] = some (.d (.b true), []) := by
 refine call_q w.e449 ?_
 simp only [evAll, Nat.reduceBEq, ↓reduceIte, Nat.reduceEqDiff, Nat.reduceAdd, Nat.reduceLeDiff, Nat.reduceSub, Nat.reduceLT, reduceCtorEq, Int.reduceEq, Int.reduceLT, Int.reduceLE, Int.reduceNeg, loopQ, Int.reduceToNat, Nat.reduceMul, List.range'_one, c449, Qf, bne_self_eq_false, not_true_eq_false, decide_false]
 refine sw_loop w hl (fun tm => ?_) l.length 0 (by omega)
 simp only [evAll, Nat.reduceBEq, ↓reduceIte, Nat.reduceEqDiff, Nat.reduceAdd, Nat.reduceLeDiff, Nat.reduceSub, Nat.reduceLT, reduceCtorEq, Int.reduceEq, Int.reduceLT, Int.reduceLE, Int.reduceNeg, loopQ, Int.reduceToNat, Nat.reduceMul, List.range'_one, c449]
theorem words_call (w : WE E) (s : List UInt8) : lcall E 450 [.d (.s s)] [] = some (.d (.f 452 [] [.q [.s s] 0]), []) := by
 refine call_q w.e450 ?_
 simp only [evAll, Nat.reduceBEq, ↓reduceIte, Nat.reduceEqDiff, Nat.reduceAdd, Nat.reduceLeDiff, Nat.reduceSub, Nat.reduceLT, reduceCtorEq, Int.reduceEq, Int.reduceLT, Int.reduceLE, Int.reduceNeg, loopQ, Int.reduceToNat, Nat.reduceMul, List.range'_one, c450]
abbrev lpW (j : Nat) : Option Obj := some (.lp j 10447 [.ptr 1 0, .ptr 2 0, .ptr 3 0])
abbrev bI (n : Int) : Option Obj := some (.box [.d (.i .i64 n)])
abbrev bB (b : Bool) : Option Obj := some (.box [.d (.b b)])
abbrev wV (k : Int) (t : List UInt8) (v p : Int) : V := .agg [.d (.i .i64 k), .d (.s t), .d (.i .i64 v), .d (.i .i64 p)]
theorem round_more (w : WE E) (l : List AW) (h4 : l.length < 400) (k : Int) (t : List UInt8) (v : Int) (p : Nat) :
  lcall E 10447 [.fn 10447 [.map 0] [], wV k t v p, .d (.b true)] [lpW 0, some (.box [.own 4 0 4 (l.map rowW)]), bI 0, bB false, some (.tok 0 4)] =
   some (.d (.b true), [lpW 0, some (.box [.own 4 1 4 ((l ++ [((k, t, v), p)]).map rowW)]), bI 0, bB false, some (.tok 1 4)]) := by
 have h4' : ¬ ((l.length : Nat) : Int) ≥ 400 := by omega
 have rm : roomy (l.length + 1) 40 = true := by unfold roomy; exact Ql (by omega)
 have ap : l.map rowW ++ [[D.i .i64 k, .s t, .i .i64 v, .i .i64 (p : Nat)]] = (l ++ [((k, t, v), p)]).map rowW := by rw [List.map_append]; rfl
 refine call_round w.e10447 (id := 0) rfl rfl rfl ?_
 simp only [evAll, Nat.reduceBEq, ↓reduceIte, Nat.reduceEqDiff, Nat.reduceAdd, Nat.reduceLeDiff, Nat.reduceSub, Nat.reduceLT, reduceCtorEq, Int.reduceEq, Int.reduceLT, Int.reduceLE, Int.reduceNeg, loopQ, Int.reduceToNat, Nat.reduceMul, List.range'_one, a10447, b10447, Qf, h4', rm, ap, List.length_cons, List.length_nil]
theorem round_bad (w : WE E) (l : List AW) (k : Int) (t : List UInt8) (v : Int) (p : Nat) (ok : Bool) (h : ok = false ∨ 400 ≤ l.length) :
  lcall E 10447 [.fn 10447 [.map 0] [], wV k t v p, .d (.b ok)] [lpW 0, some (.box [.own 4 0 4 (l.map rowW)]), bI 0, bB false, some (.tok 0 4)] =
   some (.d (.b false), [lpW 2, some (.box [.nil 4]), bI p, bB false, some (.tok 0 4)]) := by
 refine call_round w.e10447 (id := 0) rfl rfl rfl ?_
 cases ok with
 | false =>
  simp only [evAll, Nat.reduceBEq, ↓reduceIte, Nat.reduceEqDiff, Nat.reduceAdd, Nat.reduceLeDiff, Nat.reduceSub, Nat.reduceLT, reduceCtorEq, Int.reduceEq, Int.reduceLT, Int.reduceLE, Int.reduceNeg, loopQ, Int.reduceToNat, Nat.reduceMul, List.range'_one, a10447, b10447, Qf]
  rfl
 | true =>
  have h4' : ((l.length : Nat) : Int) ≥ 400 := by
   rcases h with h | h
   ·cases h
   ·omega
  simp only [evAll, Nat.reduceBEq, ↓reduceIte, Nat.reduceEqDiff, Nat.reduceAdd, Nat.reduceLeDiff, Nat.reduceSub, Nat.reduceLT, reduceCtorEq, Int.reduceEq, Int.reduceLT, Int.reduceLE, Int.reduceNeg, loopQ, Int.reduceToNat, Nat.reduceMul, List.range'_one, a10447, b10447, Qf, eq_true h4']
  rfl
theorem blank_idem : ∀ (b : Bool) (s : List UInt8), blankG false (s.drop (blankG b s)) = 0
 | b, [] => by cases b <;> rfl
 | false, c :: r => by
  simp only [blankG]
  by_cases h : isB c = true
  ·rw [if_pos h, List.drop_succ_cons]; exact blank_idem false r
  ·rw [if_neg h]
   by_cases h2 : c.toNat = 35
   ·rw [if_pos h2, List.drop_succ_cons]; exact blank_idem true r
   ·rw [if_neg h2, List.drop_zero]
    simp only [blankG]
    rw [if_neg h, if_neg h2]
 | true, c :: r => by
  simp only [blankG]
  split
  ·rw [List.drop_succ_cons]; exact blank_idem true r
  ·rw [List.drop_succ_cons]; exact blank_idem false r
def waLoop : CCode := match c452.body with
 | .seq _ (.block _ (.loop _ c)) => c
 | _ => .skip
theorem wa_loop (w : WE E) {s : List UInt8} (hs : s.length ≤ 1500) {R : List AW × Option Nat} {Q : Ex → St → Prop}
  (hx : ∀ l, R = (l, none) → ∀ tm, Q (.exit 0) ⟨tm, [lpW 0, some (.box [.own 4 0 4 (l.map rowW)]), bI 0, bB false, some (.tok 0 4)]⟩)
  (hr : ∀ l p, R = (l, some p) → ∀ tm (x : List (Option Obj)), Q .ret ⟨tm, lpW 2 :: some (.box [.nil 4]) :: bI p :: bB false :: some (.tok 1 4) :: x⟩) : ∀ (m i f : Nat) (l : List AW), i ≤ s.length → s.length < i + m → s.length < i + f → l.length ≤ i →
  blankG false (s.drop i) = 0 → joinW l (wordsG f i l.length (s.drop i)) = R →
  LX E waLoop ⟨[0, 1, 3], [], [], [], [], true⟩ 5 ⟨[(0, .fn 10447 [.map 0] []), (1, .d (.q [.s s] 0)), (3, .d (.i .i64 i))], [lpW 0, some (.box [.own 4 0 4 (l.map rowW)]), bI 0, bB false, some (.tok 0 4)]⟩ Q := by
 intro m
 induction m with
 | zero => intro i f l hi h; omega
 | succ m ih =>
  intro i f l hi hm hf hl hb0 hR
  by_cases hlt : i < s.length
  ·have hy : (i : Int) < s.length := by omega
   have h0 : (0 : Int) ≤ i := by omega
   have hd : s.drop i = s[i] :: s.drop (i + 1) := List.drop_eq_getElem_cons hlt
   have hln : (s.drop i).length = s.length - i := List.length_drop
   obtain ⟨f, rfl⟩ : ∃ f', f = f' + 1 := ⟨f - 1, by omega⟩
   have hle2 : (i : Int) ≤ (s.length : Nat) := by omega
   have htk : s.take s.length = s := List.take_length
   have c1 := one_ok w (c := s[i]) (r := s.drop (i + 1)) (by rw [← hd]; omega)
   rw [hd] at hb0
   rw [hd, wordsG_word hb0] at hR
   rw [← hd] at hR c1
   generalize s[i] = c at *
   refine lx_step ?_
   cases ho : oneF (s.drop i) with
   | none =>
    rw [ho] at hR
    have ec : oneV (s.drop i) = .tup [wV (badK (s.drop i)) [] 0 0, .d (.i .i64 0), .d (.b false)] := by simp only [oneV, ho]
    rw [ec] at c1
    have cr := round_bad w l (badK (s.drop i)) [] 0 i false (.inl rfl)
    simp only [evAll, Nat.reduceBEq, ↓reduceIte, Nat.reduceEqDiff, Nat.reduceAdd, Nat.reduceLeDiff, Nat.reduceSub, Nat.reduceLT, reduceCtorEq, Int.reduceEq, Int.reduceLT, Int.reduceLE, Int.reduceNeg, loopQ, Int.reduceToNat, Nat.reduceMul, List.range'_one, waLoop, c452, eq_true hy, h0, c1, eq_true hle2, Int.le_refl, and_self, and_true, true_and, Qk, htk, cr]
    exact hr _ _ hR.symm _ _
   | some p =>
    obtain ⟨⟨k, t, v⟩, n⟩ := p
    rw [ho] at hR
    have hn := oneF_le ho
    rw [hln] at hn
    have ec : oneV (s.drop i) = .tup [wV k t v 0, .d (.i .i64 n), .d (.b true)] := by simp only [oneV, ho]
    rw [ec] at c1
    by_cases h4 : 400 ≤ l.length
    ·simp only [h4, if_true] at hR
     have cr := round_bad w l k t v i true (.inr h4)
     simp only [evAll, Nat.reduceBEq, ↓reduceIte, Nat.reduceEqDiff, Nat.reduceAdd, Nat.reduceLeDiff, Nat.reduceSub, Nat.reduceLT, reduceCtorEq, Int.reduceEq, Int.reduceLT, Int.reduceLE, Int.reduceNeg, loopQ, Int.reduceToNat, Nat.reduceMul, List.range'_one, waLoop, c452, eq_true hy, h0, c1, eq_true hle2, Int.le_refl, and_self, and_true, true_and, Qk, htk, cr]
     exact hr _ _ hR.symm _ _
    ·simp only [h4, if_false] at hR
     have cr := round_more w l (by omega) k t v i
     have c3 := blank_ok w (s := s.drop (i + n)) (by rw [List.length_drop]; omega)
     have hbl := blankG_le false (s.drop (i + n))
     rw [List.length_drop] at hbl
     have hid := blank_idem false (s.drop (i + n))
     rw [List.drop_drop] at hid
     have hle3 : ((i + n : Nat) : Int) ≤ (s.length : Nat) := by omega
     have h03 : (0 : Int) ≤ ((i + n : Nat) : Int) := by omega
     have wn : IntKind.i64.wrap ((i : Int) + (n : Nat)) = ((i + n : Nat) : Int) := by rw [i64w (by omega) (by omega)]; omega
     have hsk : wordsG f (i + n) (l.length + 1) (s.drop (i + n)) = wordsG f (i + n + blankG false (s.drop (i + n))) (l.length + 1) (s.drop (i + n + blankG false (s.drop (i + n)))) := by
      rw [wordsG_skip (n := blankG false (s.drop (i + n))) (by rw [List.drop_drop, hid]; omega), List.drop_drop]
     rw [List.drop_drop, hsk] at hR
     generalize blankG false (s.drop (i + n)) = b at *
     have wb : IntKind.i64.wrap (((i + n : Nat) : Int) + (b : Nat)) = ((i + n + b : Nat) : Int) := by rw [i64w (by omega) (by omega)]; omega
     have ih' := ih (i + n + b) f (l ++ [((k, t, v), i)]) (by omega) (by omega) (by omega) (by simp; omega) hid (by
      rw [← hR, Qg, List.length_singleton]
      simp only [joinW, List.append_assoc, List.singleton_append])
     simp only [evAll, Nat.reduceBEq, ↓reduceIte, Nat.reduceEqDiff, Nat.reduceAdd, Nat.reduceLeDiff, Nat.reduceSub, Nat.reduceLT, reduceCtorEq, Int.reduceEq, Int.reduceLT, Int.reduceLE, Int.reduceNeg, loopQ, Int.reduceToNat, Nat.reduceMul, List.range'_one, waLoop, c452, eq_true hy, h0, c1, eq_true hle2, Int.le_refl, and_self, and_true, true_and, Qk, htk, cr, wn, h03, eq_true hle3, c3, wb]
     exact ⟨_, rfl, ih'⟩
  ·have hn : ¬ ((i : Int) < s.length) := by omega
   rw [List.drop_eq_nil_of_le (by omega), wordsG_nil, joinW, List.append_nil] at hR
   refine lx_step ?_
   simp only [evAll, Nat.reduceBEq, ↓reduceIte, Nat.reduceEqDiff, Nat.reduceAdd, Nat.reduceLeDiff, Nat.reduceSub, Nat.reduceLT, reduceCtorEq, Int.reduceEq, Int.reduceLT, Int.reduceLE, Int.reduceNeg, loopQ, Int.reduceToNat, Nat.reduceMul, List.range'_one, waLoop, c452, hn]
   exact hx _ hR.symm _
theorem wa_ok (w : WE E) {s : List UInt8} (hs : s.length ≤ 1500) : ∀ (l : List AW) (e : Option Nat), allF s = (l, e) →
  lcall E 452 [.fn 10447 [.map 0] [], .d (.q [.s s] 0)] [lpW 0, some (.box [.own 4 0 4 []]), bI 0, bB false, some (.tok 0 4)] =
   some (.tup [], match e with
    | none => [lpW 0, some (.box [.own 4 0 4 (l.map rowW)]), bI 0, bB false, some (.tok 0 4)]
    | some p => [lpW 2, some (.box [.nil 4]), bI p, bB false, some (.tok 1 4)]) := by
 intro l e hR
 refine call_q w.e452 ?_
 have c1 := blank_ok w (s := s) (by omega)
 have hbl := blankG_le false s
 have hid := blank_idem false s
 have e0 : allF s = wordsG (s.length + 1) (blankG false s) 0 (s.drop (blankG false s)) := by
  unfold allF
  rw [if_neg (by omega), wordsG_skip (n := blankG false s) (by rw [hid]; omega), Nat.zero_add]
 simp only [evAll, Nat.reduceBEq, ↓reduceIte, Nat.reduceEqDiff, Nat.reduceAdd, Nat.reduceLeDiff, Nat.reduceSub, Nat.reduceLT, reduceCtorEq, Int.reduceEq, Int.reduceLT, Int.reduceLE, Int.reduceNeg, loopQ, Int.reduceToNat, Nat.reduceMul, List.range'_one, c452, c1]
 generalize blankG false s = b at *
 refine wa_loop w hs (R := (l, e)) (fun l' hl tm => ?_) (fun l' p hl tm x => ?_) (s.length + 1) b (s.length + 1) [] (by omega) (by omega) (by omega) (by simp) hid (by rw [← hR, e0]; rfl)
 ·cases hl
  simp only [evAll, Nat.reduceBEq, ↓reduceIte, Nat.reduceEqDiff, Nat.reduceAdd, Nat.reduceLeDiff, Nat.reduceSub, Nat.reduceLT, reduceCtorEq, Int.reduceEq, Int.reduceLT, Int.reduceLE, Int.reduceNeg, loopQ, Int.reduceToNat, Nat.reduceMul, List.range'_one, c452]
 ·cases hl
  simp only [evAll, Nat.reduceBEq, ↓reduceIte, Nat.reduceEqDiff, Nat.reduceAdd, Nat.reduceLeDiff, Nat.reduceSub, Nat.reduceLT, reduceCtorEq, Int.reduceEq, Int.reduceLT, Int.reduceLE, Int.reduceNeg, loopQ, Int.reduceToNat, Nat.reduceMul, List.range'_one, c452]
theorem all_ok (w : WE E) (s : List UInt8) : lcall E 447 [.d (.s s)] [] = some (ansW (allF s), []) := by
 refine call_q w.e447 ?_
 by_cases h : (s.length : Int) > 1500
 ·have e : allF s = ([], some 0) := by unfold allF; rw [if_pos (by omega)]
  rw [e]
  simp only [evAll, Nat.reduceBEq, ↓reduceIte, Nat.reduceEqDiff, Nat.reduceAdd, Nat.reduceLeDiff, Nat.reduceSub, Nat.reduceLT, reduceCtorEq, Int.reduceEq, Int.reduceLT, Int.reduceLE, Int.reduceNeg, loopQ, Int.reduceToNat, Nat.reduceMul, List.range'_one, c447, eq_true h, ansW]
 have c1 := words_call w s
 obtain ⟨⟨l, e⟩, he⟩ : ∃ x, allF s = x := ⟨_, rfl⟩
 have c2 := wa_ok w (s := s) (by omega) l e he
 rw [he]
 cases e with
 | none =>
  simp only [evAll, Nat.reduceBEq, ↓reduceIte, Nat.reduceEqDiff, Nat.reduceAdd, Nat.reduceLeDiff, Nat.reduceSub, Nat.reduceLT, reduceCtorEq, Int.reduceEq, Int.reduceLT, Int.reduceLE, Int.reduceNeg, loopQ, Int.reduceToNat, Nat.reduceMul, List.range'_one, c447, h, c1, c2, ansW]
 | some p =>
  simp only [evAll, Nat.reduceBEq, ↓reduceIte, Nat.reduceEqDiff, Nat.reduceAdd, Nat.reduceLeDiff, Nat.reduceSub, Nat.reduceLT, reduceCtorEq, Int.reduceEq, Int.reduceLT, Int.reduceLE, Int.reduceNeg, loopQ, Int.reduceToNat, Nat.reduceMul, List.range'_one, c447, h, c1, c2, ansW]
end Ab.Wd
namespace Ab.Wd
open Go
variable {E : Nat → Option Fn}
end Ab.Wd
namespace Ab.Wd
open Go
variable {E : Nat → Option Fn}
theorem wordsG_fuel : ∀ (f f' at_ k : Nat) (s : List UInt8), s.length < f → s.length < f' → wordsG f at_ k s = wordsG f' at_ k s
 | 0, _, _, _, _, h, _ => absurd h (Nat.not_lt_zero _)
 | _ + 1, 0, _, _, _, _, h => absurd h (Nat.not_lt_zero _)
 | f + 1, f' + 1, at_, k, s, h, h' => by
  have ih := wordsG_fuel f f'
  simp only [wordsG]
  have hl : (s.drop (blankG false s)).length ≤ s.length := by rw [List.length_drop]; omega
  cases hd : s.drop (blankG false s) with
  | nil => rfl
  | cons c r =>
   rw [hd] at hl
   simp only
   cases ho : oneF (c :: r) with
   | none => rfl
   | some p =>
    obtain ⟨w, n⟩ := p
    have hn := oneF_le ho
    simp only
    rw [ih _ _ ((c :: r).drop n) (by rw [List.length_drop]; omega) (by rw [List.length_drop]; omega)]
end Ab.Wd
namespace Ab.Wd
open Go
def Reads (s : List UInt8) (want : List AW) : Prop := ∀ r, wordsG (s.length + r.length + 1) 0 0 (s ++ r) = joinW want (wordsG (r.length + 1) s.length want.length r)
theorem Reads.nil : Reads [] [] := fun r => by simp [joinW]
theorem Reads.word {s : List UInt8} {want : List AW} (h : Reads s want) {t : List UInt8} {sep : UInt8} {w : GW} (hw : want.length < 400) (ht : t ≠ []) (hsep : isB sep = true)
  (h1 : ∀ r, oneF (t ++ sep :: r) = some (w, t.length)) (h0 : ∀ r, blankG false (t ++ sep :: r) = 0) : Reads (s ++ t ++ [sep]) (want ++ [(w, s.length)]) := fun r => by
 have e : s ++ t ++ [sep] ++ r = s ++ (t ++ sep :: r) := by simp
 have hl : (t ++ sep :: r).length = t.length + r.length + 1 := by simp; omega
 have hg := h (t ++ sep :: r)
 rw [hl] at hg
 obtain ⟨c, u, hc⟩ : ∃ c u, t ++ sep :: r = c :: u := by
  cases t with
  | nil => exact absurd rfl ht
  | cons c t => exact ⟨c, t ++ sep :: r, rfl⟩
 have h0' := h0 r
 have h1' := h1 r
 rw [hc] at h0' h1'
 rw [e, show (s ++ t ++ [sep]).length + r.length + 1 = s.length + (t.length + r.length + 1) + 1 by simp; omega, hg, hc, wordsG_word h0', h1']
 have hd : (c :: u).drop t.length = sep :: r := by rw [← hc, List.drop_append_of_le_length (Nat.le_refl _), List.drop_length, List.nil_append]
 simp only [hd]
 rw [if_neg (by omega), wordsG_skip (n := 1) (s := sep :: r) (by simp only [blankG, hsep, if_true, List.drop_succ_cons, List.drop_zero]; omega)]
 simp only [List.drop_succ_cons, List.drop_zero]
 rw [wordsG_fuel (t.length + r.length + 1) (r.length + 1) _ _ r (by omega) (by omega)]
 simp only [joinW, List.append_assoc, List.singleton_append, Qg, List.length_singleton]
 rw [show s.length + (t.length + 1) = s.length + t.length + 1 by omega]
theorem Reads.all {s : List UInt8} {want : List AW} (h : Reads s want) (hs : s.length ≤ 1500) : allF s = (want, none) := by
 have := h []
 rw [List.append_nil, wordsG_nil] at this
 unfold allF
 rw [if_neg (by omega)]
 simpa [joinW] using this
def wordT (x : Nat) : GW × List UInt8 :=
 if x % 3 = 0 then ((1, [110, UInt8.ofNat (97 + x / 3 % 26), UInt8.ofNat (48 + x / 100 % 10)], 0), [110, UInt8.ofNat (97 + x / 3 % 26), UInt8.ofNat (48 + x / 100 % 10)])
 else if x % 3 = 1 then ((2, [], ((x / 3 % 10 * 10 + x / 31 % 10 : Nat) : Int)), [UInt8.ofNat (48 + x / 3 % 10), UInt8.ofNat (48 + x / 31 % 10)])
 else ((4, [marks.getD (x / 3 % 9) 0], 0), [marks.getD (x / 3 % 9) 0])
theorem isW_32 : isW 32 = false := by decide
theorem isG_32 : isG 32 = false := by decide
theorem toNat_of {n : Nat} (h : n < 256) : (UInt8.ofNat n).toNat = n := by simp; omega
theorem word_read (x : Nat) (r : List UInt8) : oneF ((wordT x).2 ++ 32 :: r) = some ((wordT x).1, (wordT x).2.length) ∧ blankG false ((wordT x).2 ++ 32 :: r) = 0 := by
 have ha : (UInt8.ofNat (97 + x / 3 % 26)).toNat = 97 + x / 3 % 26 := toNat_of (by omega)
 have hb : (UInt8.ofNat (48 + x / 100 % 10)).toNat = 48 + x / 100 % 10 := toNat_of (by omega)
 have hc : (UInt8.ofNat (48 + x / 3 % 10)).toNat = 48 + x / 3 % 10 := toNat_of (by omega)
 have hd : (UInt8.ofNat (48 + x / 31 % 10)).toNat = 48 + x / 31 % 10 := toNat_of (by omega)
 unfold wordT
 split
 ·generalize UInt8.ofNat (97 + x / 3 % 26) = a at *
  generalize UInt8.ofNat (48 + x / 100 % 10) = b at *
  have k1 : isL 110 = true := by decide
  have k0 : isB 110 = false := by decide
  have k01 : ¬ (110 : UInt8).toNat = 35 := by decide
  have k2 : isW 110 = true := by decide
  have k3 : isW a = true := by
   have : isL a = true := by simp only [isL, Qi, Qh]; omega
   simp [isW, this]
  have k4 : isW b = true := by
   have : isG b = true := by simp only [isG, Qi, Qh]; omega
   simp [isW, this]
  constructor
  ·simp only [List.cons_append, List.nil_append, oneF, k1, if_true, spanF, k2, k3, k4, isW_32, Qm, if_false, List.length_cons, List.length_nil, List.take_succ_cons, List.take_zero]
  ·simp only [List.cons_append, List.nil_append, blankG, k0, k01, Qm, if_false]
 ·split
  ·generalize hya : UInt8.ofNat (48 + x / 3 % 10) = a at *
   generalize hyb : UInt8.ofNat (48 + x / 31 % 10) = b at *
   have k1 : isL a = false := by
    cases h : isL a with
    | false => rfl
    | true => simp only [isL, Qi, Qh] at h; omega
   have k2 : isG a = true := by simp only [isG, Qi, Qh]; omega
   have k3 : isG b = true := by simp only [isG, Qi, Qh]; omega
   have k0 : isB a = false := by simp [isB]; omega
   have k01 : ¬ a.toNat = 35 := by omega
   have kd : decOf [a, b] = some (x / 3 % 10 * 10 + x / 31 % 10) := by
    unfold decOf
    simp only [List.length_cons, List.length_nil]
    rw [if_pos (by omega)]
    simp only [decGo]
    rw [if_pos (by omega), if_pos (by omega)]
    congr 1; omega
   constructor
   ·simp only [List.cons_append, List.nil_append, oneF, k1, k2, if_true, spanF, k3, isG_32, Qm, if_false, List.length_cons, List.length_nil, List.take_succ_cons, List.take_zero, kd]
    rfl
   ·simp only [List.cons_append, List.nil_append, blankG, k0, k01, Qm, if_false]
  ·have hj : x / 3 % 9 < 9 := Nat.mod_lt _ (by decide)
   generalize x / 3 % 9 = j at hj
   have key : ∀ j, j < 9 → isL (marks.getD j 0) = false ∧ isG (marks.getD j 0) = false ∧ ¬ (marks.getD j 0).toNat = 34 ∧ marks.contains (marks.getD j 0) = true ∧ isB (marks.getD j 0) = false ∧ ¬ (marks.getD j 0).toNat = 35 := by decide
   obtain ⟨k1, k2, k3, k4, k5, k6⟩ := key j hj
   generalize marks.getD j 0 = c at *
   constructor
   ·simp only [List.cons_append, List.nil_append, oneF, k1, k2, k3, k4, Qm, if_false, if_true, List.length_cons, List.length_nil]
   ·simp only [List.cons_append, List.nil_append, blankG, k5, k6, Qm, if_false]
theorem wordT_len (x : Nat) : (wordT x).2.length ≤ 3 ∧ (wordT x).2 ≠ [] := by
 unfold wordT
 split
 ·simp
 ·split <;> simp
def escC (c : UInt8) : List UInt8 := if c.toNat = 34 ∨ c.toNat = 92 then [92, c] else [c]
def escF (q : List UInt8) : List UInt8 := (q.map escC).flatten
theorem escF_cons (c : UInt8) (r : List UInt8) : escF (c :: r) = escC c ++ escF r := rfl
theorem escF_snoc (q : List UInt8) (c : UInt8) : escF (q ++ [c]) = escF q ++ escC c := by simp [escF]
theorem escF_len : ∀ q : List UInt8, (escF q).length ≤ 2 * q.length
 | [] => by simp [escF]
 | c :: r => by
  have := escF_len r
  rw [escF_cons, Qg, List.length_cons]
  unfold escC
  split <;> simp <;> omega
def Fine (c : UInt8) : Prop := 32 ≤ c.toNat ∧ c.toNat ≤ 126
theorem qGo_esc : ∀ (q : List UInt8) (n : Nat) (acc r : List UInt8), (∀ c ∈ q, Fine c) → qGo n acc (escF q ++ 34 :: r) = some (acc ++ q, n + (escF q).length + 1)
 | [], n, acc, r, _ => by
  show qGo n acc (34 :: r) = _
  unfold qGo
  simp [escF]
 | c :: q, n, acc, r, h => by
  have hc := h c List.mem_cons_self
  have ih := qGo_esc q
  unfold Fine at hc
  rw [escF_cons, List.append_assoc]
  by_cases k : c.toNat = 34 ∨ c.toNat = 92
  ·have e : escC c = [92, c] := by unfold escC; rw [if_pos k]
   rw [e]
   show qGo n acc (92 :: c :: (escF q ++ 34 :: r)) = _
   unfold qGo
   have h92 : (92 : UInt8).toNat = 92 := rfl
   rw [if_neg (by rw [h92]; omega), if_pos h92]
   simp only
   rw [if_pos k, ih _ _ _ fun d hd => h d (List.mem_cons_of_mem _ hd)]
   simp
   omega
  ·have e : escC c = [c] := by unfold escC; rw [if_neg k]
   rw [e]
   show qGo n acc (c :: (escF q ++ 34 :: r)) = _
   unfold qGo
   rw [if_neg (by omega), if_neg (by omega), if_neg (by omega), ih _ _ _ fun d hd => h d (List.mem_cons_of_mem _ hd)]
   simp
   omega
def quoteT (q : List UInt8) : List UInt8 := [34] ++ escF q ++ [34]
theorem quote_read {q : List UInt8} (h : ∀ c ∈ q, Fine c) (r : List UInt8) : oneF (quoteT q ++ 10 :: r) = some ((3, q, 0), (quoteT q).length) ∧ blankG false (quoteT q ++ 10 :: r) = 0 := by
 have e : quoteT q ++ 10 :: r = 34 :: (escF q ++ 34 :: 10 :: r) := by simp [quoteT]
 have k1 : isL 34 = false := by decide
 have k2 : isG 34 = false := by decide
 have k3 : isB 34 = false := by decide
 have k4 : ¬ (34 : UInt8).toNat = 35 := by decide
 have k5 : (34 : UInt8).toNat = 34 := rfl
 rw [e]
 constructor
 ·simp only [oneF, k1, k2, k5, Qm, if_false, if_true, qGo_esc q 1 [] (10 :: r) h]
  simp [quoteT]; omega
 ·simp only [blankG, k3, k4, Qm, if_false]
end Ab.Wd
namespace Ab.Wd
open Go
variable {E : Nat → Option Fn}
def u16Rows (l : List Nat) : List (List D) := l.map fun (n : Nat) => [.i .u16 (n : Int)]
def strRows (l : List (List UInt8)) : List (List D) := l.map fun q => [.s q]
def bkLoop1 : CCode := match c444.body with
 | .seq _ (.seq _ (.seq _ (.seq _ (.seq _ (.seq (.seq _ (.block _ (.loop _ c))) _))))) => c
 | _ => .skip
def bkLoop2 : CCode := match c444.body with
 | .seq _ (.seq _ (.seq _ (.seq _ (.seq _ (.seq _ (.seq (.seq _ (.block _ (.loop _ c))) _)))))) => c
 | _ => .skip
def bkLoop3 : CCode := match bkLoop2 with
 | .seq _ (.seq (.block _ (.seq _ (.seq (.seq _ (.block _ (.loop _ c))) _))) _) => c
 | _ => .skip
theorem app_word (want : List AW) (w : GW) (p : Nat) : want.map rowW ++ [[D.i .i64 w.1, .s w.2.1, .i .i64 w.2.2, .i .i64 (p : Nat)]] = (want ++ [(w, p)]).map rowW := by rw [List.map_append]; rfl
theorem bk_loop1 {l : List Nat} (hl : l.length ≤ 40) (hu : ∀ x ∈ l, x ≤ 65535) {q : List (List UInt8)} {Q : Ex → St → Prop}
  (hQ : ∀ tm s want, Reads s want → s.length ≤ 200 → want.length = l.length → look tm 1 = .d (.l 1 (strRows q)) → look tm 5 = .d (.s s) → look tm 6 = .own 0 0 4 (want.map rowW) → Q (.exit 0) ⟨tm, [tk4]⟩) :
  ∀ (m i : Nat) (s : List UInt8) (want : List AW), i + m = l.length → Reads s want → s.length ≤ 4 * i → want.length = i →
  LX E bkLoop1 ⟨[0, 1, 5, 6, 7], [6], [], [], [], true⟩ 1 ⟨[(0, .d (.l 1 (u16Rows l))), (1, .d (.l 1 (strRows q))), (5, .d (.s s)), (6, .own 0 0 4 (want.map rowW)), (7, .d (.i .i64 i))], [tk4]⟩ Q := by
 intro m
 induction m with
 | zero =>
  intro i s want hi hr hs hw
  have hn : ¬ ((i : Int) < (l.length : Nat)) := by omega
  refine lx_step ?_
  simp only [evAll, Nat.reduceBEq, ↓reduceIte, Nat.reduceEqDiff, Nat.reduceAdd, Nat.reduceLeDiff, Nat.reduceSub, Nat.reduceLT, reduceCtorEq, Int.reduceEq, Int.reduceLT, Int.reduceLE, Int.reduceNeg, loopQ, Int.reduceToNat, Nat.reduceMul, List.range'_one, bkLoop1, c444, u16Rows, Qf, hn]
  exact hQ _ s want hr (by omega) (by omega) rfl rfl rfl
 | succ m ih =>
  intro i s want hi hr hs hw
  have hy : ((i : Int) < (l.length : Nat)) := by omega
  have la : i < l.length := by omega
  have h0 : (0 : Int) ≤ i := by omega
  have ga : (u16Rows l)[i]? = some [.i .u16 (l[i] : Int)] := by rw [u16Rows, List.getElem?_map, Qd la]; rfl
  have wr : IntKind.i64.wrap ((i : Int) + 1) = ((i + 1 : Nat) : Int) := by rw [i64w (by omega) (by omega)]; omega
  have hx := hu _ (List.getElem_mem la)
  have hlr : (u16Rows l).length = l.length := by simp [u16Rows]
  generalize l[i] = x at *
  have hwl := wordT_len x
  have hr' : Reads (s ++ (wordT x).2 ++ [32]) (want ++ [((wordT x).1, s.length)]) := hr.word (by omega) hwl.2 (by decide) (fun r => (word_read x r).1) (fun r => (word_read x r).2)
  have ih' := ih (i + 1) _ _ (by omega) hr' (by simp only [Qg, List.length_singleton]; omega) (by simp; omega)
  have rm : roomy (want.length + 1) 40 = true := by unfold roomy; exact Ql (by omega)
  have m3 : (x : Int).tmod 3 = ((x % 3 : Nat) : Int) := rfl
  have q3 : IntKind.u16.wrap ((x : Int).tdiv 3) = ((x / 3 : Nat) : Int) := by rw [show (x : Int).tdiv 3 = ((x / 3 : Nat) : Int) from rfl]; exact Go.IntWalk.u16_in _ (by omega)
  have q100 : IntKind.u16.wrap ((x : Int).tdiv 100) = ((x / 100 : Nat) : Int) := by rw [show (x : Int).tdiv 100 = ((x / 100 : Nat) : Int) from rfl]; exact Go.IntWalk.u16_in _ (by omega)
  have q31 : IntKind.u16.wrap ((x : Int).tdiv 31) = ((x / 31 : Nat) : Int) := by rw [show (x : Int).tdiv 31 = ((x / 31 : Nat) : Int) from rfl]; exact Go.IntWalk.u16_in _ (by omega)
  have m26 : ((x / 3 : Nat) : Int).tmod 26 = ((x / 3 % 26 : Nat) : Int) := rfl
  have m10 : ((x / 100 : Nat) : Int).tmod 10 = ((x / 100 % 10 : Nat) : Int) := rfl
  have n10 : ((x / 3 : Nat) : Int).tmod 10 = ((x / 3 % 10 : Nat) : Int) := rfl
  have o10 : ((x / 31 : Nat) : Int).tmod 10 = ((x / 31 % 10 : Nat) : Int) := rfl
  have m9 : ((x / 3 : Nat) : Int).tmod 9 = ((x / 3 % 9 : Nat) : Int) := rfl
  have a97 : IntKind.u16.wrap (97 + ((x / 3 % 26 : Nat) : Int)) = ((97 + x / 3 % 26 : Nat) : Int) := by rw [show (97 : Int) + ((x / 3 % 26 : Nat) : Int) = ((97 + x / 3 % 26 : Nat) : Int) by omega]; exact Go.IntWalk.u16_in _ (by omega)
  have a48 : IntKind.u16.wrap (48 + ((x / 100 % 10 : Nat) : Int)) = ((48 + x / 100 % 10 : Nat) : Int) := by rw [show (48 : Int) + ((x / 100 % 10 : Nat) : Int) = ((48 + x / 100 % 10 : Nat) : Int) by omega]; exact Go.IntWalk.u16_in _ (by omega)
  have b48 : IntKind.u16.wrap (48 + ((x / 3 % 10 : Nat) : Int)) = ((48 + x / 3 % 10 : Nat) : Int) := by rw [show (48 : Int) + ((x / 3 % 10 : Nat) : Int) = ((48 + x / 3 % 10 : Nat) : Int) by omega]; exact Go.IntWalk.u16_in _ (by omega)
  have c48 : IntKind.u16.wrap (48 + ((x / 31 % 10 : Nat) : Int)) = ((48 + x / 31 % 10 : Nat) : Int) := by rw [show (48 : Int) + ((x / 31 % 10 : Nat) : Int) = ((48 + x / 31 % 10 : Nat) : Int) by omega]; exact Go.IntWalk.u16_in _ (by omega)
  have v97 : IntKind.u8.wrap ((97 + x / 3 % 26 : Nat) : Int) = ((97 + x / 3 % 26 : Nat) : Int) := Go.IntWalk.u8_in _ (by omega)
  have v48 : IntKind.u8.wrap ((48 + x / 100 % 10 : Nat) : Int) = ((48 + x / 100 % 10 : Nat) : Int) := Go.IntWalk.u8_in _ (by omega)
  have w48 : IntKind.u8.wrap ((48 + x / 3 % 10 : Nat) : Int) = ((48 + x / 3 % 10 : Nat) : Int) := Go.IntWalk.u8_in _ (by omega)
  have z48 : IntKind.u8.wrap ((48 + x / 31 % 10 : Nat) : Int) = ((48 + x / 31 % 10 : Nat) : Int) := Go.IntWalk.u8_in _ (by omega)
  refine lx_step ?_
  by_cases k0 : x % 3 = 0
  ·have k0' : ((x % 3 : Nat) : Int) = 0 := by omega
   have ew : wordT x = ((1, [110, UInt8.ofNat (97 + x / 3 % 26), UInt8.ofNat (48 + x / 100 % 10)], 0), [110, UInt8.ofNat (97 + x / 3 % 26), UInt8.ofNat (48 + x / 100 % 10)]) := by unfold wordT; rw [if_pos k0]
   rw [ew] at ih'
   have ap := app_word want (1, [110, UInt8.ofNat (97 + x / 3 % 26), UInt8.ofNat (48 + x / 100 % 10)], 0) s.length
   simp only at ap
   have l1 : s.length + 3 ≤ 4611686018427387904 := by omega
   have l2 : s.length + 4 ≤ 4611686018427387904 := by omega
   simp only [evAll, Nat.reduceBEq, ↓reduceIte, Nat.reduceEqDiff, Nat.reduceAdd, Nat.reduceLeDiff, Nat.reduceSub, Nat.reduceLT, reduceCtorEq, Int.reduceEq, Int.reduceLT, Int.reduceLE, Int.reduceNeg, loopQ, Int.reduceToNat, Nat.reduceMul, List.range'_one, bkLoop1, c444, hlr, eq_true hy, h0, ga, m3, eq_true k0', q3, m26, a97, v97, q100, m10, a48, v48, Qk, List.length_cons, List.length_nil, Qg, l1, l2, rm, ap, Qf, wr]
   exact ⟨by rfl, _, rfl, ih'⟩
  by_cases k1 : x % 3 = 1
  ·have k0' : ¬ ((x % 3 : Nat) : Int) = 0 := by omega
   have k1' : ((x % 3 : Nat) : Int) = 1 := by omega
   have ew : wordT x = ((2, [], ((x / 3 % 10 * 10 + x / 31 % 10 : Nat) : Int)), [UInt8.ofNat (48 + x / 3 % 10), UInt8.ofNat (48 + x / 31 % 10)]) := by unfold wordT; rw [if_neg k0, if_pos k1]
   rw [ew] at ih'
   have ap := app_word want (2, [], ((x / 3 % 10 * 10 + x / 31 % 10 : Nat) : Int)) s.length
   simp only at ap
   have l1 : s.length + 2 ≤ 4611686018427387904 := by omega
   have l2 : s.length + 3 ≤ 4611686018427387904 := by omega
   have e1 : IntKind.i64.wrap ((x / 3 % 10 : Nat) : Int) = ((x / 3 % 10 : Nat) : Int) := i64w (by omega) (by omega)
   have e2 : IntKind.i64.wrap ((x / 31 % 10 : Nat) : Int) = ((x / 31 % 10 : Nat) : Int) := i64w (by omega) (by omega)
   have e3 : IntKind.i64.wrap (((x / 3 % 10 : Nat) : Int) * 10) = ((x / 3 % 10 * 10 : Nat) : Int) := by rw [i64w (by omega) (by omega)]; omega
   have e4 : IntKind.i64.wrap (((x / 3 % 10 * 10 : Nat) : Int) + ((x / 31 % 10 : Nat) : Int)) = ((x / 3 % 10 * 10 + x / 31 % 10 : Nat) : Int) := by rw [i64w (by omega) (by omega)]; omega
   simp only [evAll, Nat.reduceBEq, ↓reduceIte, Nat.reduceEqDiff, Nat.reduceAdd, Nat.reduceLeDiff, Nat.reduceSub, Nat.reduceLT, reduceCtorEq, Int.reduceEq, Int.reduceLT, Int.reduceLE, Int.reduceNeg, loopQ, Int.reduceToNat, Nat.reduceMul, List.range'_one, bkLoop1, c444, hlr, eq_true hy, h0, ga, m3, k0', eq_true k1', q3, q31, n10, o10, b48, c48, w48, z48, e1, e2, e3, e4, Qk, List.length_cons, List.length_nil, Qg, l1, l2, rm, ap, Qf, wr]
   exact ⟨by rfl, by rfl, _, rfl, ih'⟩
  ·have k0' : ¬ ((x % 3 : Nat) : Int) = 0 := by omega
   have k1' : ¬ ((x % 3 : Nat) : Int) = 1 := by omega
   have ew : wordT x = ((4, [marks.getD (x / 3 % 9) 0], 0), [marks.getD (x / 3 % 9) 0]) := by unfold wordT; rw [if_neg k0, if_neg k1]
   rw [ew] at ih'
   have hj : x / 3 % 9 < 9 := Nat.mod_lt _ (by decide)
   have gm : ((123 :: List.take (x / 3 % 9) ([125, 40, 41, 61, 46, 58, 59, 62] : List UInt8))).drop (x / 3 % 9) = [marks.getD (x / 3 % 9) 0] := by
    generalize x / 3 % 9 = j at hj
    have : ∀ j, j < 9 → ((123 :: List.take j ([125, 40, 41, 61, 46, 58, 59, 62] : List UInt8))).drop j = [marks.getD j 0] := by decide
    exact this j hj
   have b1 : IntKind.u16.wrap (((x / 3 % 9 : Nat) : Int) + 1) = ((x / 3 % 9 + 1 : Nat) : Int) := by rw [show ((x / 3 % 9 : Nat) : Int) + 1 = ((x / 3 % 9 + 1 : Nat) : Int) by omega]; exact Go.IntWalk.u16_in _ (by omega)
   have j0 : (0 : Int) ≤ ((x / 3 % 9 : Nat) : Int) := by omega
   have j1 : ((x / 3 % 9 : Nat) : Int) ≤ ((x / 3 % 9 + 1 : Nat) : Int) := by omega
   have j2 : ((x / 3 % 9 + 1 : Nat) : Int) ≤ 9 := by omega
   have l9 : ((([123, 125, 40, 41, 61, 46, 58, 59, 62] : List UInt8).length : Nat) : Int) = 9 := rfl
   have l1 : s.length + 1 ≤ 4611686018427387904 := by omega
   have l2 : s.length + 2 ≤ 4611686018427387904 := by omega
   generalize marks.getD (x / 3 % 9) 0 = c at *
   have ap := app_word want (4, [c], 0) s.length
   simp only at ap
   generalize x / 3 % 9 = j at *
   simp only [evAll, Nat.reduceBEq, ↓reduceIte, Nat.reduceEqDiff, Nat.reduceAdd, Nat.reduceLeDiff, Nat.reduceSub, Nat.reduceLT, reduceCtorEq, Int.reduceEq, Int.reduceLT, Int.reduceLE, Int.reduceNeg, loopQ, Int.reduceToNat, Nat.reduceMul, List.range'_one, bkLoop1, c444, hlr, eq_true hy, h0, ga, m3, k0', k1', q3, m9, b1, l9, j0, j1, j2, and_self, Qk, gm, List.length_cons, List.length_nil, Qg, l1, l2, rm, ap, Qf, wr]
   exact ⟨by rfl, _, rfl, ih'⟩
end Ab.Wd
