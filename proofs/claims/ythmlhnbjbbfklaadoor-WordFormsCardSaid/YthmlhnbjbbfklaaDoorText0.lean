/-
 Rows that are looked through: slices.IndexFunc, slices.ContainsFunc, whatever their elements' size.
-/
import Derived.Test.YthmlhnbjbbfklaaDoorPack4
import Derived.IntWalk
import Derived.Test.YthmlhnbjbbfklaaDoorPack3
import Derived.Test.YthmlhnbjbbfklaaDoorPack5
set_option linter.unusedSimpArgs false
set_option linter.unusedVariables false
set_option linter.unusedSectionVars false
set_option linter.unnecessarySimpa false
set_option maxRecDepth 100000
set_option maxHeartbeats 4000000
namespace Ab
open Go
theorem i64w {n : Int} (h1 : -9223372036854775808 ≤ n) (h2 : n ≤ 9223372036854775807) : IntKind.i64.wrap n = n := Go.IntWalk.i64_in n ⟨h1, h2⟩
theorem evY :
  (∀ (a b c d e : V) (r : List V), takeV (a :: b :: c :: d :: e :: r) 0 5 = some [a, b, c, d, e]) ∧
  (∀ (a b c d e f : V) (r : List V), takeV (a :: b :: c :: d :: e :: f :: r) 0 6 = some [a, b, c, d, e, f]) ∧
  (∀ (a b c d e f g : V) (r : List V), takeV (a :: b :: c :: d :: e :: f :: g :: r) 0 7 = some [a, b, c, d, e, f, g]) ∧
  (∀ (a b c d e f g h : V) (r : List V), takeV (a :: b :: c :: d :: e :: f :: g :: h :: r) 0 8 = some [a, b, c, d, e, f, g, h]) ∧
  (∀ (a b c d e f g h i : V) (r : List V), takeV (a :: b :: c :: d :: e :: f :: g :: h :: i :: r) 0 9 = some [a, b, c, d, e, f, g, h, i]) ∧
  (∀ (a b c d e f g h i j : V) (r : List V), takeV (a :: b :: c :: d :: e :: f :: g :: h :: i :: j :: r) 0 10 = some [a, b, c, d, e, f, g, h, i, j]) ∧
  (∀ (a b c d e f g h i j k : V) (r : List V), takeV (a :: b :: c :: d :: e :: f :: g :: h :: i :: j :: k :: r) 0 11 = some [a, b, c, d, e, f, g, h, i, j, k]) ∧
  (∀ (a b c d e f g h i j k l : V) (r : List V), takeV (a :: b :: c :: d :: e :: f :: g :: h :: i :: j :: k :: l :: r) 0 12 = some [a, b, c, d, e, f, g, h, i, j, k, l]) := by
 refine ⟨?_, ?_, ?_, ?_, ?_, ?_, ?_, ?_⟩ <;> intros <;> simp [takeV]
@[reducible] def oo (d : Nat) (c : Cop) : CO := ⟨some d, c, none, 0⟩
theorem oo_eq (d : Nat) (c : Cop) : oo d c = ⟨some d, c, none, 0⟩ := rfl
theorem far_eq : far = 4096 := rfl
set_option linter.defProp false in
def evPl := And.intro @List.getD_cons_zero.{0} (And.intro @List.getD_cons_succ.{0} (And.intro @Bool.or_self (And.intro @Bool.or_false (And.intro @Bool.false_or (And.intro @Bool.or_true (And.intro @Bool.true_or (And.intro @Bool.and_true (And.intro @Bool.true_and (And.intro @Bool.and_self (And.intro @Bool.and_false (And.intro @Bool.false_and (And.intro @Bool.not_false (And.intro @Bool.not_true (And.intro Qm (And.intro not_true_eq_false (And.intro not_false_eq_true (And.intro @true_and (And.intro @Qk (And.intro @Int.cast_ofNat_Int far_eq)))))))))))))))))))
set_option linter.defProp false in
def evAll := And.intro oo_eq (And.intro evPl (And.intro evY (And.intro evQ (And.intro evK (And.intro evG (And.intro evW (And.intro evX (And.intro evM (And.intro evN (And.intro evC (And.intro evR evH)))))))))))
section
variable {E : Nat → Option Fn} {α : Type}
end
open Go
@[reducible] def ki (n : Int) : A := .k (.d (.i .i64 n))
@[reducible] def om (d t : Nat) : CO := ⟨some d, .mv (.t t), none, 0⟩
@[reducible] def ol (d : Nat) (b : Bool) (n t : Nat) : CO := ⟨some d, .ld b n (.t t), none, 0⟩
@[reducible] def og (d : Nat) (c : Cop) (g : Nat) : CO := ⟨some d, c, some (g, true), 0⟩
@[reducible] def oh (d : Nat) (c : Cop) (g : Nat) : CO := ⟨some d, c, some (g, false), 0⟩
@[reducible] def ow (d : Nat) (c : Cop) (p : Nat) : CO := ⟨some d, c, none, p⟩
@[reducible] def oz (c : Cop) (p : Nat) : CO := ⟨none, c, none, p⟩
@[reducible] def sq (l : List CO) (c : CCode) : CCode := .seq (.region false l) c
@[reducible] def zE : List V := [.d (.i .i64 0), .d (.i .i64 0), .d (.i .i64 0), .d (.s []), .nil 4, .d (.i .i64 0), .d (.i .i64 0), .nil 8]
@[reducible] def zV : List V := [.d (.i .i64 0), .d (.i .i64 0), .d (.s []), .nil 4]
@[reducible] def kb (b : Bool) : A := .k (.d (.b b))
@[reducible] def fa (n t : Nat) : Cop := .fa n (.t t)
@[reducible] def ct (t : Nat) (a b : CCode) : CCode := .cond (.t t) a b
@[reducible] def ob (d : Nat) (o : BinOp) (x y : A) : CO := ⟨some d, .bin o x y, none, 0⟩
def c443 : CFn := ⟨sq ([
oo 0 (.mv (kb false))]) (
.seq (sq ([
oo 21 (.call 446 [] 0 true),
oo 22 (.un .not (.t 21))]) (
ct 22 (
sq ([
oo 0 (.mv (kb false))]) (
.ret)) (.skip))) (
sq ([
oo 23 (.bsl 1 9 [(.s [])] [(0, (.k (.d (.s [97, 32, 63])))), (1, (.k (.d (.s [34])))), (2, (.k (.d (.s [34, 97])))), (3, (.k (.d (.s [97, 32, 34, 92, 110, 34])))), (4, (.k (.d (.s [49, 50, 51, 52, 53, 54, 55, 56, 57, 48, 49, 50, 51, 52, 53, 54, 55, 56, 57])))), (5, (.k (.d (.s [97, 45, 98])))), (6, (.k (.d (.s [65])))), (7, (.k (.d (.s [32, 32, 34, 97, 10, 98, 34])))), (8, (.k (.d (.s [43]))))]),
om 1 23]) (
sq ([
oo 24 (.bsl 1 9 [(.i .i64 0)] [(0, (ki 2)), (1, (ki 0)), (2, (ki 0)), (3, (ki 2)), (4, (ki 0)), (5, (ki 1)), (6, (ki 0)), (7, (ki 2)), (8, (ki 0))]),
om 2 24]) (
.seq (sq ([
oo 3 (.mv (ki 0))]) (
.block 0 (.loop ⟨[1, 2, 3], [], [], [], [], true⟩ (.seq (sq ([
om 25 3,
om 26 1,
oo 27 (.len 0 (.t 26)),
ob 28 .lss (.t 25) (.t 27)]) (
ct 28 (
.skip) (.exit 0))) (
.seq (.block 1 (sq ([
om 32 1,
om 33 3,
oo 34 (.ia 1 (.t 32) (.t 33)),
ol 35 false 1 34,
oo 36 (.call 447 [.t 35] 0 true),
om 31 36,
oo 37 (.ext (.t 31) 0),
oo 38 (.ext (.t 31) 1),
oo 39 (.ext (.t 31) 2),
om 4 37,
om 5 38,
om 6 39]) (
sq ([
om 40 6,
om 41 40,
oh 42 (.mv (.t 5)) 41,
oh 43 (.mv (.t 2)) 41,
oh 44 (.mv (.t 3)) 41,
oh 45 (.ia 1 (.t 43) (.t 44)) 41,
oh 46 (.ld false 1 (.t 45)) 41,
oh 47 (.bin .neq (.t 42) (.t 46)) 41,
oo 48 (.pick (.t 41) (kb true) (.t 47)),
om 49 48,
oh 50 (.mv (.t 4)) 49,
oh 51 (.len 0 (.t 50)) 49,
oh 52 (.bin .neq (.t 51) (ki 0)) 49,
oo 53 (.pick (.t 49) (kb true) (.t 52))]) (
ct 53 (
sq ([
oo 0 (.mv (kb false))]) (
.ret)) (.skip))))) (
.region false [
om 29 3,
ob 30 .add (.t 29) (ki 1),
om 3 30])))))) (
sq ([
oo 7 (.mv (.k (.d (.s []))))]) (
.seq (sq ([
oo 8 (.mv (ki 0))]) (
.block 2 (.loop ⟨[7, 8], [], [], [], [], true⟩ (.seq (sq ([
om 54 8,
ob 55 .lss (.t 54) (ki 400)]) (
ct 55 (
.skip) (.exit 2))) (
.seq (.block 3 (.region false [
om 58 7,
oo 59 (.bin .add (.t 58) (.k (.d (.s [59, 32])))),
om 7 59])) (
.region false [
om 56 8,
ob 57 .add (.t 56) (ki 1),
om 8 57])))))) (
sq ([
om 61 7,
oo 62 (.call 447 [.t 61] 0 true),
om 60 62,
oo 63 (.ext (.t 60) 0),
oo 64 (.ext (.t 60) 1),
oo 65 (.ext (.t 60) 2),
om 9 63,
om 10 64,
om 11 65]) (
sq ([
om 67 7,
oo 68 (.bin .add (.t 67) (.k (.d (.s [59])))),
oo 69 (.call 447 [.t 68] 0 true),
om 66 69,
oo 70 (.ext (.t 66) 0),
oo 71 (.ext (.t 66) 1),
oo 72 (.ext (.t 66) 2),
om 12 70,
om 13 71,
om 14 72]) (
sq ([
oo 74 (.mks 1 1 [(.i .u8 0)] true (ki 1501) (ki 1501)),
oo 75 (.bts (.t 74)),
oo 76 (.call 447 [.t 75] 0 true),
om 73 76,
oo 77 (.ext (.t 73) 0),
oo 78 (.ext (.t 73) 1),
oo 79 (.ext (.t 73) 2),
om 15 77,
om 16 78,
om 17 79]) (
sq ([
oo 81 (.call 447 [(.k (.d (.s [49, 50, 97, 98, 32, 51, 46, 120, 32, 35, 32, 123, 32, 10, 125, 62])))] 0 true),
om 80 81,
oo 82 (.ext (.t 80) 0),
oo 83 (.ext (.t 80) 1),
oo 84 (.ext (.t 80) 2),
om 18 82,
om 19 83,
om 20 84]) (
sq ([
om 85 11,
om 86 85,
og 87 (.mv (.t 9)) 86,
og 88 (.len 0 (.t 87)) 86,
og 89 (.bin .eql (.t 88) (ki 400)) 86,
oo 90 (.pick (.t 86) (.t 89) (kb false)),
om 91 90,
og 92 (.mv (.t 14)) 91,
og 93 (.un .not (.t 92)) 91,
oo 94 (.pick (.t 91) (.t 93) (kb false)),
om 95 94,
og 96 (.mv (.t 13)) 95,
og 97 (.bin .eql (.t 96) (ki 800)) 95,
oo 98 (.pick (.t 95) (.t 97) (kb false)),
om 99 98,
og 100 (.mv (.t 17)) 99,
og 101 (.un .not (.t 100)) 99,
oo 102 (.pick (.t 99) (.t 101) (kb false)),
om 103 102,
og 104 (.mv (.t 16)) 103,
og 105 (.bin .eql (.t 104) (ki 0)) 103,
oo 106 (.pick (.t 103) (.t 105) (kb false)),
om 107 106,
og 108 (.mv (.t 20)) 107,
oo 109 (.pick (.t 107) (.t 108) (kb false)),
om 110 109,
og 111 (.mv (.t 18)) 110,
og 112 (.len 0 (.t 111)) 110,
og 113 (.bin .eql (.t 112) (ki 7)) 110,
oo 114 (.pick (.t 110) (.t 113) (kb false)),
om 115 114,
og 116 (.mv (.t 18)) 115,
og 117 (.ia 4 (.t 116) (ki 0)) 115,
og 118 (fa 2 117) 115,
og 119 (.ld false 1 (.t 118)) 115,
og 120 (.bin .eql (.t 119) (ki 12)) 115,
oo 121 (.pick (.t 115) (.t 120) (kb false)),
om 122 121,
og 123 (.mv (.t 18)) 122,
og 124 (.ia 4 (.t 123) (ki 1)) 122,
og 125 (fa 1 124) 122,
og 126 (.ld false 1 (.t 125)) 122,
og 127 (.bin .eql (.t 126) (.k (.d (.s [97, 98])))) 122,
oo 128 (.pick (.t 122) (.t 127) (kb false)),
om 129 128,
og 130 (.mv (.t 18)) 129,
og 131 (.ia 4 (.t 130) (ki 1)) 129,
og 132 (fa 3 131) 129,
og 133 (.ld false 1 (.t 132)) 129,
og 134 (.bin .eql (.t 133) (ki 2)) 129,
oo 135 (.pick (.t 129) (.t 134) (kb false)),
om 136 135,
og 137 (.mv (.t 18)) 136,
og 138 (.ia 4 (.t 137) (ki 5)) 136,
og 139 (fa 1 138) 136,
og 140 (.ld false 1 (.t 139)) 136,
og 141 (.bin .eql (.t 140) (.k (.d (.s [125])))) 136,
oo 142 (.pick (.t 136) (.t 141) (kb false)),
om 143 142,
og 144 (.mv (.t 18)) 143,
og 145 (.ia 4 (.t 144) (ki 5)) 143,
og 146 (fa 3 145) 143,
og 147 (.ld false 1 (.t 146)) 143,
og 148 (.bin .eql (.t 147) (ki 14)) 143,
oo 149 (.pick (.t 143) (.t 148) (kb false)),
om 0 149]) (
.ret)))))))))))), [.slot 0]⟩
def n443 : Notes := { anns := [⟨[1, 2, 3], [], [], [], [], true⟩, ⟨[7, 8], [], [], [], [], true⟩], frz := [0, 0, 0, 0, 0, 0, 0, 0, 0, 0, 0, 0, 0, 0, 0, 0, 0, 0, 0, 0, 0, 0, 0, 0, 0, 0, 0, 0, 0, 0, 0, 0, 0, 0, 0, 0, 0, 0, 0, 0, 0, 0, 0, 0, 0, 0, 0, 0, 0, 0, 0, 0, 0, 0, 0, 0, 0, 0, 0, 0, 0, 0, 0, 0, 0, 0, 0, 0, 0, 0, 0, 0, 1], rgs := [] }
def c446 : CFn := ⟨sq ([
oo 0 (.mv (kb false))]) (
sq ([
oo 8 (.call 447 [(.k (.d (.s [97, 49, 32, 61, 32, 34, 120, 92, 34, 34, 32, 49, 50, 59, 32, 35, 32, 110, 111])))] 0 true),
om 7 8,
oo 9 (.ext (.t 7) 0),
oo 10 (.ext (.t 7) 1),
oo 11 (.ext (.t 7) 2),
om 1 9,
om 2 10,
om 3 11]) (
sq ([
oo 13 (.call 447 [(.k (.d (.s [97, 32, 63])))] 0 true),
om 12 13,
oo 14 (.ext (.t 12) 0),
oo 15 (.ext (.t 12) 1),
oo 16 (.ext (.t 12) 2),
om 4 14,
om 5 15,
om 6 16]) (
sq ([
om 17 3,
om 18 17,
og 19 (.mv (.t 1)) 18,
og 20 (.len 0 (.t 19)) 18,
og 21 (.bin .eql (.t 20) (ki 5)) 18,
oo 22 (.pick (.t 18) (.t 21) (kb false)),
om 23 22,
og 24 (.mv (.t 1)) 23,
og 25 (.ia 4 (.t 24) (ki 0)) 23,
og 26 (.ld true 4 (.t 25)) 23,
og 27 (.build [(.d (.i .i64 0)), (.d (.s [])), (.d (.i .i64 0)), (.d (.i .i64 0))] [(0, 1, (ki 1)), (1, 1, (.k (.d (.s [97, 49]))))]) 23,
og 28 (.eqa [.i, .s, .i, .i] false (.t 26) (.t 27)) 23,
oo 29 (.pick (.t 23) (.t 28) (kb false)),
om 30 29,
og 31 (.mv (.t 1)) 30,
og 32 (.ia 4 (.t 31) (ki 2)) 30,
og 33 (fa 1 32) 30,
og 34 (.ld false 1 (.t 33)) 30,
og 35 (.bin .eql (.t 34) (.k (.d (.s [120, 34])))) 30,
oo 36 (.pick (.t 30) (.t 35) (kb false)),
om 37 36,
og 38 (.mv (.t 1)) 37,
og 39 (.ia 4 (.t 38) (ki 3)) 37,
og 40 (fa 2 39) 37,
og 41 (.ld false 1 (.t 40)) 37,
og 42 (.bin .eql (.t 41) (ki 12)) 37,
oo 43 (.pick (.t 37) (.t 42) (kb false)),
om 44 43,
og 45 (.mv (.t 1)) 44,
og 46 (.ia 4 (.t 45) (ki 4)) 44,
og 47 (fa 1 46) 44,
og 48 (.ld false 1 (.t 47)) 44,
og 49 (.bin .eql (.t 48) (.k (.d (.s [59])))) 44,
oo 50 (.pick (.t 44) (.t 49) (kb false)),
om 51 50,
og 52 (.mv (.t 6)) 51,
og 53 (.un .not (.t 52)) 51,
oo 54 (.pick (.t 51) (.t 53) (kb false)),
om 55 54,
og 56 (.mv (.t 5)) 55,
og 57 (.bin .eql (.t 56) (ki 2)) 55,
oo 58 (.pick (.t 55) (.t 57) (kb false)),
om 0 58]) (
.ret)))), [.slot 0]⟩
def n446 : Notes := { anns := [], frz := [], rgs := [] }
def c447 : CFn := ⟨sq ([
oo 2 (.zero (.nil 4)),
oo 3 (.zero (.d (.i .i64 0))),
oo 4 (.zero (.d (.b false)))]) (
.seq (sq ([
om 7 0,
oo 8 (.len 1 (.t 7)),
ob 9 .gtr (.t 8) (ki 1500)]) (
ct 9 (
sq ([
oz (.st 1 (.t 2) (.k (.nil 4))) 0,
oz (.st 1 (.t 3) (ki 0)) 0,
oz (.st 1 (.t 4) (kb false)) 0]) (
.ret)) (.skip))) (
.seq (sq ([
om 10 0,
oo 11 (.call 450 [.t 10] 4 true)]) (
.block 0 (.range [(2, 0)] (.t 11) 10447 [2, 3, 4] 4))) (
sq ([
ol 27 false 1 2,
oz (.st 1 (.t 2) (.t 27)) 0,
oz (.st 1 (.t 3) (ki 0)) 0,
oz (.st 1 (.t 4) (kb true)) 0]) (
.ret)))), [.cell 2 false 1, .cell 3 false 1, .cell 4 false 1]⟩
def n447 : Notes := { anns := [], frz := [], rgs := [(10447, [2, 3, 4], 4, [(2, 0)])] }
def c448 : CFn := ⟨sq ([
oo 2 (.mv (.k (.nil 4))),
oo 3 (.mv (ki 0)),
oo 4 (.mv (kb false))]) (
.seq (sq ([
om 10 0,
oo 11 (.len 1 (.t 10)),
ob 12 .gtr (.t 11) (ki 1500)]) (
ct 12 (
sq ([
oo 2 (.mv (.k (.nil 4))),
oo 3 (.mv (ki 0)),
oo 4 (.mv (kb false))]) (
.ret)) (.skip))) (
sq ([
oo 5 (.mv (.k (.nil 4)))]) (
.seq (sq ([
oo 6 (.mv (ki 0))]) (
.block 0 (.loop ⟨[0, 5, 6], [5], [], [], [], true⟩ (.seq (sq ([
om 13 6,
om 14 0,
oo 15 (.len 1 (.t 14)),
ob 16 .lss (.t 13) (.t 15)]) (
ct 16 (
.skip) (.exit 0))) (
.block 1 (sq ([
om 17 0,
om 18 6,
oo 19 (.ixs (.t 17) (.t 18)),
om 7 19]) (
.seq (sq ([
om 20 7,
oo 21 (.bin .eql (.t 20) (.k (.d (.i .u8 32)))),
om 22 21,
oh 23 (.mv (.t 7)) 22,
oh 24 (.bin .eql (.t 23) (.k (.d (.i .u8 9)))) 22,
oo 25 (.pick (.t 22) (kb true) (.t 24)),
om 26 25,
oh 27 (.mv (.t 7)) 26,
oh 28 (.bin .eql (.t 27) (.k (.d (.i .u8 10)))) 26,
oo 29 (.pick (.t 26) (kb true) (.t 28))]) (
ct 29 (
sq ([
om 30 6,
ob 31 .add (.t 30) (ki 1),
om 6 31]) (
.exit 1)) (.skip))) (
.seq (sq ([
om 32 7,
oo 33 (.bin .eql (.t 32) (.k (.d (.i .u8 35))))]) (
ct 33 (
.seq (.block 2 (.loop ⟨[0, 5, 6], [], [], [], [], true⟩ (.seq (sq ([
om 34 6,
om 35 0,
oo 36 (.len 1 (.t 35)),
ob 37 .lss (.t 34) (.t 36),
om 38 37,
og 39 (.mv (.t 0)) 38,
og 40 (.mv (.t 6)) 38,
og 41 (.ixs (.t 39) (.t 40)) 38,
og 42 (.bin .neq (.t 41) (.k (.d (.i .u8 10)))) 38,
oo 43 (.pick (.t 38) (.t 42) (kb false))]) (
ct 43 (
.skip) (.exit 2))) (
.block 3 (.region false [
om 44 6,
ob 45 .add (.t 44) (ki 1),
om 6 45]))))) (
.exit 1)) (.skip))) (
sq ([
om 47 0,
om 48 6,
oo 49 (.sls (.t 47) (some (.t 48)) none),
oo 50 (.call 451 [.t 49] 0 true),
om 46 50,
oo 51 (.ext (.t 46) 0),
oo 52 (.ext (.t 46) 1),
oo 8 (.zero (.agg [(.d (.i .i64 0)), (.d (.s [])), (.d (.i .i64 0)), (.d (.i .i64 0))])),
oz (.st 4 (.t 8) (.t 51)) 0,
om 9 52]) (
.seq (sq ([
om 53 9,
ob 54 .eql (.t 53) (ki 0),
om 55 54,
oh 56 (.mv (.t 5)) 55,
oh 57 (.len 0 (.t 56)) 55,
oh 58 (.bin .geq (.t 57) (ki 400)) 55,
oo 59 (.pick (.t 55) (kb true) (.t 58))]) (
ct 59 (
sq ([
om 60 6,
oo 2 (.mv (.k (.nil 4))),
om 3 60,
oo 4 (.mv (kb false))]) (
.ret)) (.skip))) (
sq ([
om 61 6,
oo 62 (fa 3 8),
oz (.st 1 (.t 62) (.t 61)) 0]) (
.region false [
om 63 5,
ol 64 true 4 8,
oo 65 (.bsl 4 1 [(.i .i64 0), (.s []), (.i .i64 0), (.i .i64 0)] [(0, .t 64)]),
oo 66 (.app 4 40 (.t 63) (.t 65)),
om 67 6,
om 68 9,
ob 69 .add (.t 67) (.t 68),
om 5 66,
om 6 69])))))))))))) (
sq ([
om 70 5,
om 2 70,
oo 3 (.mv (ki 0)),
oo 4 (.mv (kb true))]) (
.ret))))), [.slot 2, .slot 3, .slot 4]⟩
def n448 : Notes := { anns := [⟨[0, 5, 6], [5], [], [], [], true⟩, ⟨[0, 5, 6], [], [], [], [], true⟩], frz := [], rgs := [] }
def c449 : CFn := ⟨sq ([
oo 4 (.mv (kb false))]) (
.seq (sq ([
om 6 0,
oo 7 (.len 0 (.t 6)),
om 8 1,
oo 9 (.len 0 (.t 8)),
ob 10 .neq (.t 7) (.t 9)]) (
ct 10 (
sq ([
oo 4 (.mv (kb false))]) (
.ret)) (.skip))) (
.seq (sq ([
oo 5 (.mv (ki 0))]) (
.block 0 (.loop ⟨[0, 1, 5], [], [], [], [], true⟩ (.seq (sq ([
om 11 5,
om 12 0,
oo 13 (.len 0 (.t 12)),
ob 14 .lss (.t 11) (.t 13)]) (
ct 14 (
.skip) (.exit 0))) (
.seq (.block 1 (.seq (.region true [
om 17 0,
om 18 5,
ow 19 (.ia 4 (.t 17) (.t 18)) 3,
ow 20 (.ld true 4 (.t 19)) 7,
om 21 1,
om 22 5,
ow 23 (.ia 4 (.t 21) (.t 22)) 48,
ow 24 (.ld true 4 (.t 23)) 112,
ow 25 (.eqa [.i, .s, .i, .i] true (.t 20) (.t 24)) 255]) (
ct 25 (
sq ([
oo 4 (.mv (kb false))]) (
.ret)) (.skip)))) (
.region false [
om 15 5,
ob 16 .add (.t 15) (ki 1),
om 5 16])))))) (
sq ([
oo 4 (.mv (kb true))]) (
.ret)))), [.slot 4]⟩
def n449 : Notes := { anns := [⟨[0, 1, 5], [], [], [], [], true⟩], frz := [], rgs := [] }
def c450 : CFn := ⟨sq ([
oo 1 (.box (.t 0)),
oo 2 (.mv (.k (.d .nf)))]) (
sq ([
oo 3 (.mkf 452 [] [.t 1] true),
om 2 3]) (
.ret)), [.slot 2]⟩
def n450 : Notes := { anns := [], frz := [0, 0, 1], rgs := [] }
def c451 : CFn := ⟨sq ([
oo 2 (.zero (.agg [(.d (.i .i64 0)), (.d (.s [])), (.d (.i .i64 0)), (.d (.i .i64 0))])),
oo 3 (.mv (ki 0))]) (
sq ([
oo 4 (.mv (ki 0))]) (
.seq (.block 0 (sq ([
om 9 0,
oo 10 (.ixs (.t 9) (ki 0)),
oo 11 (.call 455 [.t 10] 0 true),
om 8 11]) (
ct 8 (
.seq (.block 1 (.loop ⟨[0, 2, 4], [], [], [], [], true⟩ (.seq (sq ([
om 12 4,
om 13 0,
oo 14 (.len 1 (.t 13)),
ob 15 .lss (.t 12) (.t 14),
om 16 15,
og 17 (.mv (.t 0)) 16,
og 18 (.mv (.t 4)) 16,
og 19 (.ixs (.t 17) (.t 18)) 16,
og 20 (.call 455 [.t 19] 0 true) 16,
og 21 (.mv (.t 20)) 16,
oh 22 (.mv (.t 0)) 21,
oh 23 (.mv (.t 4)) 21,
oh 24 (.ixs (.t 22) (.t 23)) 21,
oh 25 (.call 456 [.t 24] 0 true) 21,
og 26 (.pick (.t 21) (kb true) (.t 25)) 16,
oo 27 (.pick (.t 16) (.t 26) (kb false))]) (
ct 27 (
.skip) (.exit 1))) (
.block 2 (.region false [
om 28 4,
ob 29 .add (.t 28) (ki 1),
om 4 29]))))) (
sq ([
om 30 0,
om 31 4,
oo 32 (.sls (.t 30) none (some (.t 31))),
oo 33 (.build [(.d (.i .i64 0)), (.d (.s [])), (.d (.i .i64 0)), (.d (.i .i64 0))] [(0, 1, (ki 1)), (1, 1, .t 32)]),
om 34 4,
oz (.st 4 (.t 2) (.t 33)) 0,
om 3 34]) (
.ret))) (sq ([
om 36 0,
oo 37 (.ixs (.t 36) (ki 0)),
oo 38 (.call 456 [.t 37] 0 true),
om 35 38]) (
ct 35 (
sq ([
oo 5 (.mv (ki 0))]) (
.seq (.block 3 (.loop ⟨[0, 2, 4, 5], [], [], [], [], true⟩ (.seq (sq ([
om 39 4,
om 40 0,
oo 41 (.len 1 (.t 40)),
ob 42 .lss (.t 39) (.t 41),
om 43 42,
og 44 (.mv (.t 0)) 43,
og 45 (.mv (.t 4)) 43,
og 46 (.ixs (.t 44) (.t 45)) 43,
og 47 (.call 456 [.t 46] 0 true) 43,
oo 48 (.pick (.t 43) (.t 47) (kb false))]) (
ct 48 (
.skip) (.exit 3))) (
.block 4 (.seq (sq ([
om 49 4,
ob 50 .lss (.t 49) (ki 18)]) (
ct 50 (
.region false [
om 51 5,
ob 52 .mul (.t 51) (ki 10),
om 53 0,
om 54 4,
oo 55 (.ixs (.t 53) (.t 54)),
oo 56 (.bin .sub (.t 55) (.k (.d (.i .u8 48)))),
oo 57 (.conv .i64 (.t 56)),
ob 58 .add (.t 52) (.t 57),
om 5 58]) (.skip))) (
.region false [
om 59 4,
ob 60 .add (.t 59) (ki 1),
om 4 60])))))) (
.seq (sq ([
om 61 4,
ob 62 .gtr (.t 61) (ki 18)]) (
ct 62 (
sq ([
oo 63 (.build [(.d (.i .i64 0)), (.d (.s [])), (.d (.i .i64 0)), (.d (.i .i64 0))] []),
oz (.st 4 (.t 2) (.t 63)) 0,
oo 3 (.mv (ki 0))]) (
.ret)) (.skip))) (
sq ([
om 64 5,
oo 65 (.build [(.d (.i .i64 0)), (.d (.s [])), (.d (.i .i64 0)), (.d (.i .i64 0))] [(0, 1, (ki 2)), (2, 1, .t 64)]),
om 66 4,
oz (.st 4 (.t 2) (.t 65)) 0,
om 3 66]) (
.ret))))) (sq ([
om 68 0,
oo 69 (.ixs (.t 68) (ki 0)),
oo 70 (.bin .eql (.t 69) (.k (.d (.i .u8 34)))),
om 67 70]) (
ct 67 (
sq ([
om 71 0,
oo 72 (.call 457 [.t 71] 0 true),
oo 73 (.ext (.t 72) 0),
oo 74 (.ext (.t 72) 1),
oz (.st 4 (.t 2) (.t 73)) 0,
om 3 74]) (
.ret)) (.skip)))))))) (
sq ([
oo 6 (.mv (.k (.d (.s [123, 125, 40, 41, 61, 46, 58, 59, 62]))))]) (
.seq (sq ([
oo 7 (.mv (ki 0))]) (
.block 5 (.loop ⟨[0, 2, 6, 7], [], [], [], [], true⟩ (.seq (sq ([
om 75 7,
om 76 6,
oo 77 (.len 1 (.t 76)),
ob 78 .lss (.t 75) (.t 77)]) (
ct 78 (
.skip) (.exit 5))) (
.seq (.block 6 (.seq (.region true [
om 81 6,
om 82 7,
ow 83 (.ixs (.t 81) (.t 82)) 3,
om 84 0,
ow 85 (.ixs (.t 84) (ki 0)) 8,
ow 86 (.bin .eql (.t 83) (.t 85)) 31]) (
ct 86 (
sq ([
om 87 0,
oo 88 (.sls (.t 87) none (some (ki 1))),
oo 89 (.build [(.d (.i .i64 0)), (.d (.s [])), (.d (.i .i64 0)), (.d (.i .i64 0))] [(0, 1, (ki 4)), (1, 1, .t 88)]),
oz (.st 4 (.t 2) (.t 89)) 0,
oo 3 (.mv (ki 1))]) (
.ret)) (.skip)))) (
.region false [
om 79 7,
ob 80 .add (.t 79) (ki 1),
om 7 80])))))) (
sq ([
oo 90 (.build [(.d (.i .i64 0)), (.d (.s [])), (.d (.i .i64 0)), (.d (.i .i64 0))] []),
oz (.st 4 (.t 2) (.t 90)) 0,
oo 3 (.mv (ki 0))]) (
.ret)))))), [.cell 2 true 4, .slot 3]⟩
def n451 : Notes := { anns := [⟨[0, 2, 4], [], [], [], [], true⟩, ⟨[0, 2, 4, 5], [], [], [], [], true⟩, ⟨[0, 2, 6, 7], [], [], [], [], true⟩], frz := [], rgs := [] }
def c452 : CFn := ⟨sq ([
ol 7 false 1 1,
oo 8 (.call 453 [.t 7] 0 true),
om 3 8]) (
.block 0 (.loop ⟨[0, 1, 3], [], [], [], [], true⟩ (.seq (sq ([
om 9 3,
ol 10 false 1 1,
oo 11 (.len 1 (.t 10)),
ob 12 .lss (.t 9) (.t 11)]) (
ct 12 (
.skip) (.exit 0))) (
.seq (.block 1 (sq ([
ol 20 false 1 1,
om 21 3,
oo 22 (.sls (.t 20) (some (.t 21)) none),
oo 23 (.call 454 [.t 22] 0 true),
om 19 23,
oo 24 (.ext (.t 19) 0),
oo 25 (.ext (.t 19) 1),
oo 26 (.ext (.t 19) 2),
oo 4 (.zero (.agg [(.d (.i .i64 0)), (.d (.s [])), (.d (.i .i64 0)), (.d (.i .i64 0))])),
oz (.st 4 (.t 4) (.t 24)) 0,
om 5 25,
om 6 26]) (
sq ([
om 27 3,
oo 28 (fa 3 4),
oz (.st 1 (.t 28) (.t 27)) 0]) (
.seq (sq ([
om 29 0,
ol 30 true 4 4,
om 31 6,
oo 32 (.callv (.t 29) [.t 30, .t 31] 4 true),
oo 33 (.un .not (.t 32)),
om 34 33,
oh 35 (.mv (.t 6)) 34,
oh 36 (.un .not (.t 35)) 34,
oo 37 (.pick (.t 34) (kb true) (.t 36))]) (
ct 37 (
.ret) (.skip))) (
.region false [
om 38 3,
om 39 5,
ob 40 .add (.t 38) (.t 39),
om 3 40]))))) (
.region false [
om 13 3,
ol 14 false 1 1,
om 15 3,
oo 16 (.sls (.t 14) (some (.t 15)) none),
oo 17 (.call 453 [.t 16] 0 true),
ob 18 .add (.t 13) (.t 17),
om 3 18]))))), []⟩
def n452 : Notes := { anns := [⟨[0, 1, 3], [], [], [], [], true⟩], frz := [], rgs := [] }
def c453 : CFn := ⟨sq ([
oo 2 (.mv (ki 0))]) (
.seq (.block 0 (.loop ⟨[0, 2], [], [], [], [], true⟩ (.seq (sq ([
om 3 2,
om 4 0,
oo 5 (.len 1 (.t 4)),
ob 6 .lss (.t 3) (.t 5)]) (
ct 6 (
.skip) (.exit 0))) (
.block 1 (sq ([
om 7 0,
om 8 2,
oo 9 (.ixs (.t 7) (.t 8))]) (
.block 2 (.seq (sq ([
oo 12 (.bin .eql (.t 9) (.k (.d (.i .u8 32)))),
om 11 12]) (
ct 11 (
.skip) (sq ([
oo 13 (.bin .eql (.t 9) (.k (.d (.i .u8 9)))),
om 11 13]) (
ct 11 (
.skip) (.region false [
oo 14 (.bin .eql (.t 9) (.k (.d (.i .u8 10)))),
om 11 14]))))) (
ct 11 (
.region false [
om 15 2,
ob 16 .add (.t 15) (ki 1),
om 2 16]) (sq ([
oo 18 (.bin .eql (.t 9) (.k (.d (.i .u8 35)))),
om 17 18]) (
ct 17 (
.region false [
om 19 2,
om 20 0,
om 21 2,
oo 22 (.sls (.t 20) (some (.t 21)) none),
oo 23 (.call 458 [.t 22, (.k (.d (.f 459 [] [])))] 4 true),
ob 24 .add (.t 19) (.t 23),
om 2 24]) (sq ([
om 10 2,
om 2 10]) (
.ret)))))))))))) (
sq ([
om 25 2,
om 2 25]) (
.ret))), [.slot 2]⟩
def n453 : Notes := { anns := [⟨[0, 2], [], [], [], [], true⟩], frz := [], rgs := [] }
def c454 : CFn := ⟨sq ([
oo 2 (.zero (.agg [(.d (.i .i64 0)), (.d (.s [])), (.d (.i .i64 0)), (.d (.i .i64 0))])),
oo 3 (.mv (ki 0)),
oo 4 (.mv (kb false))]) (
.seq (sq ([
om 11 0,
oo 12 (.ixs (.t 11) (ki 0)),
om 5 12]) (
.block 0 (sq ([
om 14 5,
oo 15 (.call 460 [.t 14] 0 true),
om 13 15]) (
ct 13 (
sq ([
om 16 0,
oo 17 (.call 458 [.t 16, (.k (.d (.f 461 [] [])))] 4 true),
om 3 17]) (
sq ([
om 18 0,
om 19 3,
oo 20 (.sls (.t 18) none (some (.t 19))),
oo 21 (.build [(.d (.i .i64 0)), (.d (.s [])), (.d (.i .i64 0)), (.d (.i .i64 0))] [(0, 1, (ki 1)), (1, 1, .t 20)]),
om 22 3,
oz (.st 4 (.t 2) (.t 21)) 0,
om 3 22,
oo 4 (.mv (kb true))]) (
.ret))) (sq ([
om 24 5,
oo 25 (.call 462 [.t 24] 0 true),
om 23 25]) (
ct 23 (
.seq (sq ([
om 26 0,
oo 27 (.call 458 [.t 26, (.k (.d (.f 462 [] [])))] 4 true),
om 3 27]) (
sq ([
om 28 3,
ob 29 .gtr (.t 28) (ki 18)]) (
ct 29 (
sq ([
ol 30 true 4 2,
oz (.st 4 (.t 2) (.t 30)) 0,
oo 3 (.mv (ki 0)),
oo 4 (.mv (kb false))]) (
.ret)) (.skip)))) (
sq ([
om 32 0,
om 33 3,
oo 34 (.sls (.t 32) none (some (.t 33))),
oo 35 (.call 296 [.t 34, (ki 10), (ki 64)] 0 true),
om 31 35,
oo 36 (.ext (.t 31) 0),
oo 37 (.ext (.t 31) 1),
om 6 36,
om 7 37]) (
sq ([
om 38 6,
oo 39 (.build [(.d (.i .i64 0)), (.d (.s [])), (.d (.i .i64 0)), (.d (.i .i64 0))] [(0, 1, (ki 2)), (2, 1, .t 38)]),
om 40 3,
oz (.st 4 (.t 2) (.t 39)) 0,
om 3 40,
oo 4 (.mv (kb true))]) (
.ret)))) (sq ([
om 42 5,
oo 43 (.bin .eql (.t 42) (.k (.d (.i .u8 34)))),
om 41 43]) (
ct 41 (
sq ([
om 45 0,
oo 46 (.call 463 [.t 45] 0 true),
om 44 46,
oo 47 (.ext (.t 44) 0),
oo 48 (.ext (.t 44) 1),
oo 49 (.ext (.t 44) 2),
om 8 47,
om 9 48,
om 10 49]) (
sq ([
om 50 8,
oo 51 (.build [(.d (.i .i64 0)), (.d (.s [])), (.d (.i .i64 0)), (.d (.i .i64 0))] [(0, 1, (ki 3)), (1, 1, .t 50)]),
om 52 9,
om 53 10,
oz (.st 4 (.t 2) (.t 51)) 0,
om 3 52,
om 4 53]) (
.ret))) (sq ([
om 55 5,
oo 56 (.call 334 [(.k (.d (.s [123, 125, 40, 41, 61, 46, 58, 59, 62]))), (.t 55)] 0 true),
ob 57 .geq (.t 56) (ki 0),
om 54 57]) (
ct 54 (
sq ([
om 58 0,
oo 59 (.sls (.t 58) none (some (ki 1))),
oo 60 (.build [(.d (.i .i64 0)), (.d (.s [])), (.d (.i .i64 0)), (.d (.i .i64 0))] [(0, 1, (ki 4)), (1, 1, .t 59)]),
oz (.st 4 (.t 2) (.t 60)) 0,
oo 3 (.mv (ki 1)),
oo 4 (.mv (kb true))]) (
.ret)) (.skip))))))))))) (
sq ([
ol 61 true 4 2,
oz (.st 4 (.t 2) (.t 61)) 0,
oo 3 (.mv (ki 0)),
oo 4 (.mv (kb false))]) (
.ret))), [.cell 2 true 4, .slot 3, .slot 4]⟩
def n454 : Notes := { anns := [], frz := [], rgs := [] }
def c455 : CFn := ⟨sq ([
oo 2 (.mv (kb false))]) (
sq ([
om 3 0,
oo 4 (.bin .geq (.t 3) (.k (.d (.i .u8 97)))),
om 5 4,
og 6 (.mv (.t 0)) 5,
og 7 (.bin .leq (.t 6) (.k (.d (.i .u8 122)))) 5,
oo 8 (.pick (.t 5) (.t 7) (kb false)),
om 2 8]) (
.ret)), [.slot 2]⟩
def n455 : Notes := { anns := [], frz := [], rgs := [] }
def c456 : CFn := ⟨sq ([
oo 2 (.mv (kb false))]) (
sq ([
om 3 0,
oo 4 (.bin .geq (.t 3) (.k (.d (.i .u8 48)))),
om 5 4,
og 6 (.mv (.t 0)) 5,
og 7 (.bin .leq (.t 6) (.k (.d (.i .u8 57)))) 5,
oo 8 (.pick (.t 5) (.t 7) (kb false)),
om 2 8]) (
.ret)), [.slot 2]⟩
def n456 : Notes := { anns := [], frz := [], rgs := [] }
def c457 : CFn := ⟨sq ([
oo 2 (.zero (.agg [(.d (.i .i64 0)), (.d (.s [])), (.d (.i .i64 0)), (.d (.i .i64 0))])),
oo 3 (.mv (ki 0))]) (
sq ([
oo 4 (.mv (.k (.nil 1)))]) (
.seq (sq ([
oo 5 (.mv (ki 1))]) (
.block 0 (.loop ⟨[0, 2, 4, 5], [4], [], [], [], true⟩ (.seq (sq ([
om 7 5,
om 8 0,
oo 9 (.len 1 (.t 8)),
ob 10 .lss (.t 7) (.t 9)]) (
ct 10 (
.skip) (.exit 0))) (
.seq (.block 1 (sq ([
om 13 0,
om 14 5,
oo 15 (.ixs (.t 13) (.t 14)),
om 6 15]) (
.seq (.block 2 (sq ([
om 17 6,
oo 18 (.bin .eql (.t 17) (.k (.d (.i .u8 34)))),
om 16 18]) (
ct 16 (
sq ([
om 19 4,
oo 20 (.bts (.t 19)),
oo 21 (.build [(.d (.i .i64 0)), (.d (.s [])), (.d (.i .i64 0)), (.d (.i .i64 0))] [(0, 1, (ki 3)), (1, 1, .t 20)]),
om 22 5,
ob 23 .add (.t 22) (ki 1),
oz (.st 4 (.t 2) (.t 21)) 0,
om 3 23]) (
.ret)) (sq ([
om 25 6,
oo 26 (.bin .lss (.t 25) (.k (.d (.i .u8 32)))),
om 27 26,
oh 28 (.mv (.t 6)) 27,
oh 29 (.bin .gtr (.t 28) (.k (.d (.i .u8 126)))) 27,
oo 30 (.pick (.t 27) (kb true) (.t 29)),
om 24 30]) (
ct 24 (
sq ([
oo 31 (.build [(.d (.i .i64 0)), (.d (.s [])), (.d (.i .i64 0)), (.d (.i .i64 0))] []),
oz (.st 4 (.t 2) (.t 31)) 0,
oo 3 (.mv (ki 0))]) (
.ret)) (sq ([
om 33 6,
oo 34 (.bin .eql (.t 33) (.k (.d (.i .u8 92)))),
om 32 34]) (
ct 32 (
sq ([
om 35 5,
ob 36 .add (.t 35) (ki 1),
om 5 36]) (
.seq (sq ([
om 37 5,
om 38 0,
oo 39 (.len 1 (.t 38)),
ob 40 .geq (.t 37) (.t 39),
om 41 40,
oh 42 (.mv (.t 0)) 41,
oh 43 (.mv (.t 5)) 41,
oh 44 (.ixs (.t 42) (.t 43)) 41,
oh 45 (.bin .neq (.t 44) (.k (.d (.i .u8 34)))) 41,
oh 46 (.mv (.t 45)) 41,
og 47 (.mv (.t 0)) 46,
og 48 (.mv (.t 5)) 46,
og 49 (.ixs (.t 47) (.t 48)) 46,
og 50 (.bin .neq (.t 49) (.k (.d (.i .u8 92)))) 46,
oh 51 (.pick (.t 46) (.t 50) (kb false)) 41,
oo 52 (.pick (.t 41) (kb true) (.t 51))]) (
ct 52 (
sq ([
oo 53 (.build [(.d (.i .i64 0)), (.d (.s [])), (.d (.i .i64 0)), (.d (.i .i64 0))] []),
oz (.st 4 (.t 2) (.t 53)) 0,
oo 3 (.mv (ki 0))]) (
.ret)) (.skip))) (
.region false [
om 54 0,
om 55 5,
oo 56 (.ixs (.t 54) (.t 55)),
om 6 56]))) (.skip)))))))) (
.region false [
om 57 4,
om 58 6,
oo 59 (.bsl 1 1 [(.i .u8 0)] [(0, .t 58)]),
oo 60 (.app 1 1 (.t 57) (.t 59)),
om 4 60])))) (
.region false [
om 11 5,
ob 12 .add (.t 11) (ki 1),
om 5 12])))))) (
sq ([
oo 61 (.build [(.d (.i .i64 0)), (.d (.s [])), (.d (.i .i64 0)), (.d (.i .i64 0))] []),
oz (.st 4 (.t 2) (.t 61)) 0,
oo 3 (.mv (ki 0))]) (
.ret)))), [.cell 2 true 4, .slot 3]⟩
def n457 : Notes := { anns := [⟨[0, 2, 4, 5], [4], [], [], [], true⟩], frz := [], rgs := [] }
def c458 : CFn := ⟨sq ([
oo 4 (.mv (ki 0))]) (
.seq (.block 0 (.loop ⟨[0, 1, 4], [], [], [], [], true⟩ (.seq (sq ([
om 5 4,
om 6 0,
oo 7 (.len 1 (.t 6)),
ob 8 .lss (.t 5) (.t 7),
om 9 8,
og 10 (.mv (.t 1)) 9,
og 11 (.mv (.t 0)) 9,
og 12 (.mv (.t 4)) 9,
og 13 (.ixs (.t 11) (.t 12)) 9,
og 14 (.callv (.t 10) [.t 13] 4 true) 9,
oo 15 (.pick (.t 9) (.t 14) (kb false))]) (
ct 15 (
.skip) (.exit 0))) (
.block 1 (.region false [
om 16 4,
ob 17 .add (.t 16) (ki 1),
om 4 17]))))) (
sq ([
om 18 4,
om 4 18]) (
.ret))), [.slot 4]⟩
def n458 : Notes := { anns := [⟨[0, 1, 4], [], [], [], [], true⟩], frz := [], rgs := [] }
def c459 : CFn := ⟨sq ([
oo 2 (.mv (kb false))]) (
sq ([
om 3 0,
oo 4 (.bin .neq (.t 3) (.k (.d (.i .u8 10)))),
om 2 4]) (
.ret)), [.slot 2]⟩
def n459 : Notes := { anns := [], frz := [], rgs := [] }
def c460 : CFn := ⟨sq ([
oo 2 (.mv (kb false))]) (
sq ([
om 3 0,
oo 4 (.bin .geq (.t 3) (.k (.d (.i .u8 97)))),
om 5 4,
og 6 (.mv (.t 0)) 5,
og 7 (.bin .leq (.t 6) (.k (.d (.i .u8 122)))) 5,
oo 8 (.pick (.t 5) (.t 7) (kb false)),
om 2 8]) (
.ret)), [.slot 2]⟩
def n460 : Notes := { anns := [], frz := [], rgs := [] }
def c461 : CFn := ⟨sq ([
oo 2 (.mv (kb false))]) (
sq ([
om 3 0,
oo 4 (.call 460 [.t 3] 0 true),
om 5 4,
oh 6 (.mv (.t 0)) 5,
oh 7 (.call 462 [.t 6] 0 true) 5,
oo 8 (.pick (.t 5) (kb true) (.t 7)),
om 2 8]) (
.ret)), [.slot 2]⟩
def n461 : Notes := { anns := [], frz := [], rgs := [] }
def c462 : CFn := ⟨sq ([
oo 2 (.mv (kb false))]) (
sq ([
om 3 0,
oo 4 (.bin .geq (.t 3) (.k (.d (.i .u8 48)))),
om 5 4,
og 6 (.mv (.t 0)) 5,
og 7 (.bin .leq (.t 6) (.k (.d (.i .u8 57)))) 5,
oo 8 (.pick (.t 5) (.t 7) (kb false)),
om 2 8]) (
.ret)), [.slot 2]⟩
def n462 : Notes := { anns := [], frz := [], rgs := [] }
def a10447 : CCode := sq ([
oo 5 (.zero (.agg [(.d (.i .i64 0)), (.d (.s [])), (.d (.i .i64 0)), (.d (.i .i64 0))])),
oz (.st 4 (.t 5) (.t 12)) 0]) (
.region false [
om 6 13])
def b10447 : CCode := .block 1 (.seq (sq ([
om 14 6,
oo 15 (.un .not (.t 14)),
om 16 15,
oh 17 (.ld false 1 (.t 2)) 16,
oh 18 (.len 0 (.t 17)) 16,
oh 19 (.bin .geq (.t 18) (ki 400)) 16,
oo 20 (.pick (.t 16) (kb true) (.t 19))]) (
ct 20 (
.seq (.region true [
oo 21 (fa 3 5),
ow 22 (.ld false 1 (.t 21)) 1,
oz (.st 1 (.t 2) (.k (.nil 4))) 0,
oz (.st 1 (.t 3) (.t 22)) 7,
oz (.st 1 (.t 4) (kb false)) 15]) (
.ret)) (.skip))) (
.region false [
ol 23 false 1 2,
ol 24 true 4 5,
oo 25 (.bsl 4 1 [(.i .i64 0), (.s []), (.i .i64 0), (.i .i64 0)] [(0, .t 24)]),
oo 26 (.app 4 40 (.t 23) (.t 25)),
oz (.st 1 (.t 2) (.t 26)) 0]))
def n10447 : Notes := { anns := [], frz := [], rgs := [] }
end Ab
namespace Ab.Wd
open Go
def isL (c : UInt8) : Bool := decide (97 ≤ c.toNat) && decide (c.toNat ≤ 122)
def isG (c : UInt8) : Bool := decide (48 ≤ c.toNat) && decide (c.toNat ≤ 57)
def isW (c : UInt8) : Bool := isL c || isG c
def isN (c : UInt8) : Bool := decide (c.toNat ≠ 10)
def isB (c : UInt8) : Bool := decide (c.toNat = 32 ∨ c.toNat = 9 ∨ c.toNat = 10)
def spanF (p : UInt8 → Bool) : List UInt8 → Nat
 | [] => 0
 | c :: r => if p c then spanF p r + 1 else 0
def blankG : Bool → List UInt8 → Nat
 | _, [] => 0
 | false, c :: r => if isB c then blankG false r + 1 else if c.toNat = 35 then blankG true r + 1 else 0
 | true, c :: r => if isN c then blankG true r + 1 else blankG false r + 1
def marks : List UInt8 := [123, 125, 40, 41, 61, 46, 58, 59, 62]
abbrev GW := Int × List UInt8 × Int
def oneF : List UInt8 → Option (GW × Nat)
 | [] => none
 | c :: r =>
  if isL c then some ((1, (c :: r).take (spanF isW (c :: r)), 0), spanF isW (c :: r))
  else if isG c then (if 18 < spanF isG (c :: r) then none else match decOf ((c :: r).take (spanF isG (c :: r))) with
   | some m => some ((2, [], (m : Int)), spanF isG (c :: r))
   | none => none)
  else if c.toNat = 34 then match qGo 1 [] r with
   | some (t, n) => some ((3, t, 0), n)
   | none => none
  else if marks.contains c then some ((4, [c], 0), 1)
  else none
def badK : List UInt8 → Int
 | [] => 0
 | c :: _ => if isL c then 0 else if isG c then 0 else if c.toNat = 34 then 3 else 0
def oneV (s : List UInt8) : V := match oneF s with
 | some ((k, t, v), n) => .tup [.agg [.d (.i .i64 k), .d (.s t), .d (.i .i64 v), .d (.i .i64 0)], .d (.i .i64 n), .d (.b true)]
 | none => .tup [.agg [.d (.i .i64 (badK s)), .d (.s []), .d (.i .i64 0), .d (.i .i64 0)], .d (.i .i64 0), .d (.b false)]
abbrev AW := GW × Nat
def rowW (w : AW) : List D := [.i .i64 w.1.1, .s w.1.2.1, .i .i64 w.1.2.2, .i .i64 w.2]
def wordsG : Nat → Nat → Nat → List UInt8 → List AW × Option Nat
 | 0, _, _, _ => ([], none)
 | f + 1, at_, k, s =>
  match s.drop (blankG false s) with
  | [] => ([], none)
  | c :: r => match oneF (c :: r) with
   | none => ([], some (at_ + blankG false s))
   | some (w, n) => if 400 ≤ k then ([], some (at_ + blankG false s)) else
    ((w, at_ + blankG false s) :: (wordsG f (at_ + blankG false s + n) (k + 1) ((c :: r).drop n)).1, (wordsG f (at_ + blankG false s + n) (k + 1) ((c :: r).drop n)).2)
def ansW : List AW × Option Nat → V
 | (l, none) => .tup [.d (.l 4 (l.map rowW)), .d (.i .i64 0), .d (.b true)]
 | (_, some p) => .tup [.d (.l 4 []), .d (.i .i64 p), .d (.b false)]
def allF (s : List UInt8) : List AW × Option Nat := if 1500 < s.length then ([], some 0) else wordsG (s.length + 1) 0 0 s
theorem spanF_le (p : UInt8 → Bool) : ∀ s : List UInt8, spanF p s ≤ s.length
 | [] => Nat.le_refl _
 | c :: r => by
  have := spanF_le p r
  simp only [spanF, List.length_cons]
  split <;> omega
theorem blankG_le : ∀ (b : Bool) (s : List UInt8), blankG b s ≤ s.length
 | b, [] => by cases b <;> exact Nat.le_refl _
 | false, c :: r => by
  have h1 := blankG_le false r
  have h2 := blankG_le true r
  simp only [blankG, List.length_cons]
  split
  ·omega
  ·split <;> omega
 | true, c :: r => by
  have h1 := blankG_le false r
  have h2 := blankG_le true r
  simp only [blankG, List.length_cons]
  split <;> omega
theorem blankG_remark : ∀ s : List UInt8, blankG true s = spanF isN s + blankG false (s.drop (spanF isN s))
 | [] => rfl
 | c :: r => by
  have ih := blankG_remark r
  simp only [blankG, spanF]
  by_cases h : isN c = true
  ·rw [if_pos h, if_pos h, ih, List.drop_succ_cons]; omega
  ·have hc : c.toNat = 10 := by simpa [isN] using h
   have hb : isB c = true := by simp [isB, hc]
   rw [if_neg h, if_neg h, List.drop_zero]
   simp only [blankG]
   rw [if_pos hb]; omega
theorem blank_remark {c : UInt8} {r : List UInt8} (h : c.toNat = 35) : blankG false (c :: r) = spanF isN (c :: r) + blankG false ((c :: r).drop (spanF isN (c :: r))) := by
 have h1 : isB c = false := by simp [isB, h]
 have h2 : isN c = true := by simp [isN, h]
 simp only [blankG, spanF, h1, h2, h, if_true, if_false, Qm, List.drop_succ_cons]
 rw [blankG_remark r]; omega
theorem qGo_le : ∀ (s : List UInt8) (n : Nat) (acc t : List UInt8) (m : Nat), qGo n acc s = some (t, m) → n < m ∧ m ≤ n + s.length ∧ t.length ≤ acc.length + s.length
 | [], n, acc, t, m, h => by simp [qGo] at h
 | c :: r, n, acc, t, m, h => by
  unfold qGo at h
  simp only [List.length_cons] at h ⊢
  split at h
  ·simp only [Qa, Qj] at h
   obtain ⟨rfl, rfl⟩ := h
   omega
  ·split at h
   ·split at h
    ·cases h
    ·rename_i d r'
     split at h
     ·have := qGo_le r' _ _ _ _ h
      simp only [Qg, List.length_cons, List.length_nil] at this ⊢
      omega
     ·cases h
   ·split at h
    ·cases h
    ·have := qGo_le r _ _ _ _ h
     simp only [Qg, List.length_cons, List.length_nil] at this
     omega
theorem oneF_le {s : List UInt8} {w : GW} {n : Nat} (h : oneF s = some (w, n)) : 1 ≤ n ∧ n ≤ s.length := by
 cases s with
 | nil => cases h
 | cons c r =>
  simp only [oneF] at h
  split at h
  ·rename_i hc
   simp only [Qa, Qj] at h
   obtain ⟨_, rfl⟩ := h
   refine ⟨?_, spanF_le _ _⟩
   simp only [spanF, isW, hc, Bool.true_or, if_true]; omega
  ·split at h
   ·rename_i hc
    split at h
    ·cases h
    ·split at h
     ·simp only [Qa, Qj] at h
      obtain ⟨_, rfl⟩ := h
      refine ⟨?_, spanF_le _ _⟩
      simp only [spanF, hc, if_true]; omega
     ·cases h
   ·split at h
    ·split at h
     ·rename_i t m hq
      simp only [Qa, Qj] at h
      obtain ⟨_, rfl⟩ := h
      have := qGo_le r _ _ _ _ hq
      simp only [List.length_cons]; omega
     ·cases h
    ·split at h
     ·simp only [Qa, Qj] at h
      obtain ⟨_, rfl⟩ := h
      simp
     ·cases h
end Ab.Wd
namespace Ab.Wd
open Go
variable {E : Nat → Option Fn}
structure WE (E : Nat → Option Fn) : Prop where
 e296 : E 296 = some (.prim parseImpl)
 e334 : E 334 = some (.prim idxbImpl)
 e463 : E 463 = some (.prim quoteImpl)
 e447 : E 447 = some (.code c447)
 e448 : E 448 = some (.code c448)
 e449 : E 449 = some (.code c449)
 e450 : E 450 = some (.code c450)
 e451 : E 451 = some (.code c451)
 e452 : E 452 = some (.code c452)
 e453 : E 453 = some (.code c453)
 e454 : E 454 = some (.code c454)
 e455 : E 455 = some (.code c455)
 e456 : E 456 = some (.code c456)
 e457 : E 457 = some (.code c457)
 e458 : E 458 = some (.code c458)
 e459 : E 459 = some (.code c459)
 e460 : E 460 = some (.code c460)
 e461 : E 461 = some (.code c461)
 e462 : E 462 = some (.code c462)
 e10447 : E 10447 = some (.round [12, 13] [2, 3, 4] a10447 b10447)
abbrev uc (c : UInt8) : V := .d (.i .u8 c.toNat)
theorem isL_int (c : UInt8) : isL c = (decide ((97 : Int) ≤ (c.toNat : Int)) && decide ((c.toNat : Int) ≤ 122)) := by
 unfold isL; congr 1 <;> (apply decide_eq_decide.2; omega)
theorem isG_int (c : UInt8) : isG c = (decide ((48 : Int) ≤ (c.toNat : Int)) && decide ((c.toNat : Int) ≤ 57)) := by
 unfold isG; congr 1 <;> (apply decide_eq_decide.2; omega)
theorem letter_ok (w : WE E) (c : UInt8) : lcall E 460 [uc c] [] = some (.d (.b (isL c)), []) := by
 refine call_q w.e460 ?_
 rw [isL_int]
 by_cases h : (97 : Int) ≤ c.toNat
 ·simp only [evAll, Nat.reduceBEq, ↓reduceIte, Nat.reduceEqDiff, Nat.reduceAdd, Nat.reduceLeDiff, Nat.reduceSub, Nat.reduceLT, reduceCtorEq, Int.reduceEq, Int.reduceLT, Int.reduceLE, Int.reduceNeg, loopQ, Int.reduceToNat, Nat.reduceMul, List.range'_one, c460, eq_true h, Bool.true_and]
 ·simp only [evAll, Nat.reduceBEq, ↓reduceIte, Nat.reduceEqDiff, Nat.reduceAdd, Nat.reduceLeDiff, Nat.reduceSub, Nat.reduceLT, reduceCtorEq, Int.reduceEq, Int.reduceLT, Int.reduceLE, Int.reduceNeg, loopQ, Int.reduceToNat, Nat.reduceMul, List.range'_one, c460, h, Bool.false_and]
theorem digit_ok (w : WE E) (c : UInt8) : lcall E 462 [uc c] [] = some (.d (.b (isG c)), []) := by
 refine call_q w.e462 ?_
 rw [isG_int]
 by_cases h : (48 : Int) ≤ c.toNat
 ·simp only [evAll, Nat.reduceBEq, ↓reduceIte, Nat.reduceEqDiff, Nat.reduceAdd, Nat.reduceLeDiff, Nat.reduceSub, Nat.reduceLT, reduceCtorEq, Int.reduceEq, Int.reduceLT, Int.reduceLE, Int.reduceNeg, loopQ, Int.reduceToNat, Nat.reduceMul, List.range'_one, c462, eq_true h, Bool.true_and]
 ·simp only [evAll, Nat.reduceBEq, ↓reduceIte, Nat.reduceEqDiff, Nat.reduceAdd, Nat.reduceLeDiff, Nat.reduceSub, Nat.reduceLT, reduceCtorEq, Int.reduceEq, Int.reduceLT, Int.reduceLE, Int.reduceNeg, loopQ, Int.reduceToNat, Nat.reduceMul, List.range'_one, c462, h, Bool.false_and]
theorem name_ok (w : WE E) (c : UInt8) : lcall E 461 [uc c] [] = some (.d (.b (isW c)), []) := by
 refine call_q w.e461 ?_
 have c1 := letter_ok w c
 have c2 := digit_ok w c
 unfold isW
 cases h : isL c with
 | true => rw [h] at c1; simp only [evAll, Nat.reduceBEq, ↓reduceIte, Nat.reduceEqDiff, Nat.reduceAdd, Nat.reduceLeDiff, Nat.reduceSub, Nat.reduceLT, reduceCtorEq, Int.reduceEq, Int.reduceLT, Int.reduceLE, Int.reduceNeg, loopQ, Int.reduceToNat, Nat.reduceMul, List.range'_one, c461, c1, Bool.true_or]
 | false => rw [h] at c1; simp only [evAll, Nat.reduceBEq, ↓reduceIte, Nat.reduceEqDiff, Nat.reduceAdd, Nat.reduceLeDiff, Nat.reduceSub, Nat.reduceLT, reduceCtorEq, Int.reduceEq, Int.reduceLT, Int.reduceLE, Int.reduceNeg, loopQ, Int.reduceToNat, Nat.reduceMul, List.range'_one, c461, c1, c2, Bool.false_or]
theorem notEnd_ok (w : WE E) (c : UInt8) : lcall E 459 [uc c] [] = some (.d (.b (isN c)), []) := by
 refine call_q w.e459 ?_
 by_cases h : (c.toNat : Int) = 10
 ·have : isN c = false := by simp [isN]; omega
  rw [this]
  simp only [evAll, Nat.reduceBEq, ↓reduceIte, Nat.reduceEqDiff, Nat.reduceAdd, Nat.reduceLeDiff, Nat.reduceSub, Nat.reduceLT, reduceCtorEq, Int.reduceEq, Int.reduceLT, Int.reduceLE, Int.reduceNeg, loopQ, Int.reduceToNat, Nat.reduceMul, List.range'_one, c459, eq_true h, not_true_eq_false, decide_false]
 ·have : isN c = true := by simp [isN]; omega
  rw [this]
  simp only [evAll, Nat.reduceBEq, ↓reduceIte, Nat.reduceEqDiff, Nat.reduceAdd, Nat.reduceLeDiff, Nat.reduceSub, Nat.reduceLT, reduceCtorEq, Int.reduceEq, Int.reduceLT, Int.reduceLE, Int.reduceNeg, loopQ, Int.reduceToNat, Nat.reduceMul, List.range'_one, c459, h, not_false_eq_true, decide_true]
def spanLoop : CCode := match c458.body with
 | .seq _ (.seq (.block _ (.loop _ c)) _) => c
 | _ => .skip
theorem span_loop (w : WE E) {kf : Nat} {p : UInt8 → Bool} (hp : ∀ c, lcall E kf [uc c] [] = some (.d (.b (p c)), [])) {s : List UInt8} (hs : s.length ≤ 100000) {Q : Ex → St → Prop} : ∀ (m i : Nat), i + m = s.length →
  (∀ tm hp, look tm 4 = .d (.i .i64 (i + spanF p (s.drop i) : Nat)) → Q (.exit 0) ⟨tm, hp⟩) →
  LX E spanLoop ⟨[0, 1, 4], [], [], [], [], true⟩ 0 ⟨[(0, .d (.s s)), (1, .d (.f kf [] [])), (4, .d (.i .i64 i))], []⟩ Q := by
 intro m
 induction m with
 | zero =>
  intro i hi hQ
  have hn : ¬ ((i : Int) < s.length) := by omega
  rw [List.drop_eq_nil_of_le (by omega)] at hQ
  refine lx_step ?_
  simp only [evAll, Nat.reduceBEq, ↓reduceIte, Nat.reduceEqDiff, Nat.reduceAdd, Nat.reduceLeDiff, Nat.reduceSub, Nat.reduceLT, reduceCtorEq, Int.reduceEq, Int.reduceLT, Int.reduceLE, Int.reduceNeg, loopQ, Int.reduceToNat, Nat.reduceMul, List.range'_one, spanLoop, c458, hn]
  exact hQ _ _ (by simp only [spanF, Nat.add_zero]; rfl)
 | succ m ih =>
  intro i hi hQ
  have hy : (i : Int) < s.length := by omega
  have la : i < s.length := by omega
  have h0 : (0 : Int) ≤ i := by omega
  have ga : s[i]? = some s[i] := Qd la
  have wr : IntKind.i64.wrap ((i : Int) + 1) = ((i + 1 : Nat) : Int) := by rw [i64w (by omega) (by omega)]; omega
  have c1 := hp s[i]
  rw [List.drop_eq_getElem_cons la] at hQ
  generalize s[i] = c at *
  refine lx_step ?_
  cases hc : p c with
  | false =>
   rw [hc] at c1
   simp only [spanF, hc, Qm, if_false, Nat.add_zero] at hQ
   simp only [evAll, Nat.reduceBEq, ↓reduceIte, Nat.reduceEqDiff, Nat.reduceAdd, Nat.reduceLeDiff, Nat.reduceSub, Nat.reduceLT, reduceCtorEq, Int.reduceEq, Int.reduceLT, Int.reduceLE, Int.reduceNeg, loopQ, Int.reduceToNat, Nat.reduceMul, List.range'_one, spanLoop, c458, eq_true hy, h0, ga, c1]
   exact hQ _ _ rfl
  | true =>
   rw [hc] at c1
   simp only [spanF, hc, if_true] at hQ
   simp only [evAll, Nat.reduceBEq, ↓reduceIte, Nat.reduceEqDiff, Nat.reduceAdd, Nat.reduceLeDiff, Nat.reduceSub, Nat.reduceLT, reduceCtorEq, Int.reduceEq, Int.reduceLT, Int.reduceLE, Int.reduceNeg, loopQ, Int.reduceToNat, Nat.reduceMul, List.range'_one, spanLoop, c458, eq_true hy, h0, ga, c1, wr]
   refine ⟨_, rfl, ih (i + 1) (by omega) (fun tm hp h => hQ tm hp ?_)⟩
   rw [h, show i + 1 + spanF p (s.drop (i + 1)) = i + (spanF p (s.drop (i + 1)) + 1) by omega]
theorem span_ok (w : WE E) {kf : Nat} {p : UInt8 → Bool} (hp : ∀ c, lcall E kf [uc c] [] = some (.d (.b (p c)), [])) {s : List UInt8} (hs : s.length ≤ 100000) : lcall E 458 [.d (.s s), .d (.f kf [] [])] [] = some (.d (.i .i64 (spanF p s : Nat)), []) := by
 refine call_q w.e458 ?_
 simp only [evAll, Nat.reduceBEq, ↓reduceIte, Nat.reduceEqDiff, Nat.reduceAdd, Nat.reduceLeDiff, Nat.reduceSub, Nat.reduceLT, reduceCtorEq, Int.reduceEq, Int.reduceLT, Int.reduceLE, Int.reduceNeg, loopQ, Int.reduceToNat, Nat.reduceMul, List.range'_one, c458]
 refine span_loop w hp hs s.length 0 (by omega) (fun tm hp h => ?_)
 rw [Nat.zero_add, List.drop_zero] at h
 simp only [evAll, Nat.reduceBEq, ↓reduceIte, Nat.reduceEqDiff, Nat.reduceAdd, Nat.reduceLeDiff, Nat.reduceSub, Nat.reduceLT, reduceCtorEq, Int.reduceEq, Int.reduceLT, Int.reduceLE, Int.reduceNeg, loopQ, Int.reduceToNat, Nat.reduceMul, List.range'_one, h]
def blankLoop : CCode := match c453.body with
 | .seq _ (.seq (.block _ (.loop _ c)) _) => c
 | _ => .skip
theorem blank_loop (w : WE E) {s : List UInt8} (hs : s.length ≤ 100000) {Q : Ex → St → Prop} (hr : ∀ tm, look tm 2 = .d (.i .i64 (blankG false s : Nat)) → Q .ret ⟨tm, []⟩) (hx : ∀ tm, look tm 2 = .d (.i .i64 (blankG false s : Nat)) → Q (.exit 0) ⟨tm, []⟩) : ∀ (m i : Nat), i ≤ s.length → s.length < i + m →
  blankG false s = i + blankG false (s.drop i) →
  LX E blankLoop ⟨[0, 2], [], [], [], [], true⟩ 0 ⟨[(0, .d (.s s)), (2, .d (.i .i64 i))], []⟩ Q := by
 intro m
 induction m with
 | zero => intro i hi h; omega
 | succ m ih =>
  intro i hi hm hb
  by_cases hlt : i < s.length
  ·have hy : (i : Int) < s.length := by omega
   have h0 : (0 : Int) ≤ i := by omega
   have ga : s[i]? = some s[i] := Qd hlt
   have wr : IntKind.i64.wrap ((i : Int) + 1) = ((i + 1 : Nat) : Int) := by rw [i64w (by omega) (by omega)]; omega
   have hd : s.drop i = s[i] :: s.drop (i + 1) := List.drop_eq_getElem_cons hlt
   generalize s[i] = c at *
   refine lx_step ?_
   by_cases b1 : (c.toNat : Int) = 32
   ·have hc : isB c = true := by simp [isB]; omega
    rw [hd] at hb; simp only [blankG, hc, if_true] at hb
    simp only [evAll, Nat.reduceBEq, ↓reduceIte, Nat.reduceEqDiff, Nat.reduceAdd, Nat.reduceLeDiff, Nat.reduceSub, Nat.reduceLT, reduceCtorEq, Int.reduceEq, Int.reduceLT, Int.reduceLE, Int.reduceNeg, loopQ, Int.reduceToNat, Nat.reduceMul, List.range'_one, blankLoop, c453, eq_true hy, h0, ga, eq_true b1, wr]
    exact ⟨_, rfl, ih (i + 1) (by omega) (by omega) (by omega)⟩
   by_cases b2 : (c.toNat : Int) = 9
   ·have hc : isB c = true := by simp [isB]; omega
    rw [hd] at hb; simp only [blankG, hc, if_true] at hb
    simp only [evAll, Nat.reduceBEq, ↓reduceIte, Nat.reduceEqDiff, Nat.reduceAdd, Nat.reduceLeDiff, Nat.reduceSub, Nat.reduceLT, reduceCtorEq, Int.reduceEq, Int.reduceLT, Int.reduceLE, Int.reduceNeg, loopQ, Int.reduceToNat, Nat.reduceMul, List.range'_one, blankLoop, c453, eq_true hy, h0, ga, b1, eq_true b2, wr]
    exact ⟨_, rfl, ih (i + 1) (by omega) (by omega) (by omega)⟩
   by_cases b3 : (c.toNat : Int) = 10
   ·have hc : isB c = true := by simp [isB]; omega
    rw [hd] at hb; simp only [blankG, hc, if_true] at hb
    simp only [evAll, Nat.reduceBEq, ↓reduceIte, Nat.reduceEqDiff, Nat.reduceAdd, Nat.reduceLeDiff, Nat.reduceSub, Nat.reduceLT, reduceCtorEq, Int.reduceEq, Int.reduceLT, Int.reduceLE, Int.reduceNeg, loopQ, Int.reduceToNat, Nat.reduceMul, List.range'_one, blankLoop, c453, eq_true hy, h0, ga, b1, b2, eq_true b3, wr]
    exact ⟨_, rfl, ih (i + 1) (by omega) (by omega) (by omega)⟩
   have hc : isB c = false := by simp [isB]; omega
   by_cases b4 : (c.toNat : Int) = 35
   ·have c1 := span_ok w (notEnd_ok w) (s := s.drop i) (by rw [List.length_drop]; omega)
    have hle := spanF_le isN (s.drop i)
    rw [List.length_drop] at hle
    have e1 := blank_remark (c := c) (r := s.drop (i + 1)) (by omega)
    rw [← hd] at e1
    rw [List.drop_drop] at e1
    have hpos : 1 ≤ spanF isN (s.drop i) := by
     rw [hd]; simp only [spanF]
     rw [if_pos (by simp [isN]; omega)]; omega
    have wr2 : IntKind.i64.wrap ((i : Int) + (spanF isN (s.drop i) : Nat)) = ((i + spanF isN (s.drop i) : Nat) : Int) := by rw [i64w (by omega) (by omega)]; omega
    have hle2 : (i : Int) ≤ (s.length : Nat) := by omega
    generalize spanF isN (s.drop i) = k at *
    have htk : s.take s.length = s := List.take_length
    simp only [evAll, Nat.reduceBEq, ↓reduceIte, Nat.reduceEqDiff, Nat.reduceAdd, Nat.reduceLeDiff, Nat.reduceSub, Nat.reduceLT, reduceCtorEq, Int.reduceEq, Int.reduceLT, Int.reduceLE, Int.reduceNeg, loopQ, Int.reduceToNat, Nat.reduceMul, List.range'_one, blankLoop, c453, eq_true hy, h0, ga, b1, b2, b3, eq_true b4, c1, wr2, eq_true hle2, Int.le_refl, and_self, and_true, true_and, Qk, htk]
    exact ⟨_, rfl, ih (i + k) (by omega) (by omega) (by omega)⟩
   ·have e0 : blankG false s = i := by
     rw [hb, hd]; simp only [blankG, hc, Qm, if_false]
     rw [if_neg (by omega)]; omega
    simp only [evAll, Nat.reduceBEq, ↓reduceIte, Nat.reduceEqDiff, Nat.reduceAdd, Nat.reduceLeDiff, Nat.reduceSub, Nat.reduceLT, reduceCtorEq, Int.reduceEq, Int.reduceLT, Int.reduceLE, Int.reduceNeg, loopQ, Int.reduceToNat, Nat.reduceMul, List.range'_one, blankLoop, c453, eq_true hy, h0, ga, b1, b2, b3, b4]
    refine hr _ ?_
    rw [e0]; rfl
  ·have hn : ¬ ((i : Int) < s.length) := by omega
   have e0 : blankG false s = i := by rw [hb, List.drop_eq_nil_of_le (by omega)]; simp [blankG]
   refine lx_step ?_
   simp only [evAll, Nat.reduceBEq, ↓reduceIte, Nat.reduceEqDiff, Nat.reduceAdd, Nat.reduceLeDiff, Nat.reduceSub, Nat.reduceLT, reduceCtorEq, Int.reduceEq, Int.reduceLT, Int.reduceLE, Int.reduceNeg, loopQ, Int.reduceToNat, Nat.reduceMul, List.range'_one, blankLoop, c453, hn]
   refine hx _ ?_
   rw [e0]; rfl
theorem blank_ok (w : WE E) {s : List UInt8} (hs : s.length ≤ 100000) : lcall E 453 [.d (.s s)] [] = some (.d (.i .i64 (blankG false s : Nat)), []) := by
 refine call_q w.e453 ?_
 simp only [evAll, Nat.reduceBEq, ↓reduceIte, Nat.reduceEqDiff, Nat.reduceAdd, Nat.reduceLeDiff, Nat.reduceSub, Nat.reduceLT, reduceCtorEq, Int.reduceEq, Int.reduceLT, Int.reduceLE, Int.reduceNeg, loopQ, Int.reduceToNat, Nat.reduceMul, List.range'_one, c453]
 refine blank_loop w hs (fun tm h => ?_) (fun tm h => ?_) (s.length + 1) 0 (by omega) (by omega) (by rw [List.drop_zero]; omega)
 ·simp only [evAll, Nat.reduceBEq, ↓reduceIte, Nat.reduceEqDiff, Nat.reduceAdd, Nat.reduceLeDiff, Nat.reduceSub, Nat.reduceLT, reduceCtorEq, Int.reduceEq, Int.reduceLT, Int.reduceLE, Int.reduceNeg, loopQ, Int.reduceToNat, Nat.reduceMul, List.range'_one, h]
 ·simp only [evAll, Nat.reduceBEq, ↓reduceIte, Nat.reduceEqDiff, Nat.reduceAdd, Nat.reduceLeDiff, Nat.reduceSub, Nat.reduceLT, reduceCtorEq, Int.reduceEq, Int.reduceLT, Int.reduceLE, Int.reduceNeg, loopQ, Int.reduceToNat, Nat.reduceMul, List.range'_one, h]
end Ab.Wd
namespace Ab.Wd
open Go
variable {E : Nat → Option Fn}
theorem decGo_digits : ∀ (s : List UInt8) (acc : Nat), (∀ c ∈ s, isG c = true) → ∃ m, decGo acc s = some m
 | [], acc, _ => ⟨acc, rfl⟩
 | c :: r, acc, h => by
  have hc := h c List.mem_cons_self
  simp only [isG, Qi, Qh] at hc
  simp only [decGo]
  rw [if_pos hc]
  exact decGo_digits r _ fun d hd => h d (List.mem_cons_of_mem _ hd)
theorem take_span (p : UInt8 → Bool) : ∀ s : List UInt8, ∀ c ∈ s.take (spanF p s), p c = true
 | [], c, h => by simp [spanF] at h
 | d :: r, c, h => by
  simp only [spanF] at h
  split at h
  ·rename_i hd
   rw [List.take_succ_cons] at h
   rcases List.mem_cons.1 h with rfl | h
   ·exact hd
   ·exact take_span p r c h
  ·simp at h
theorem dec_span {c : UInt8} {r : List UInt8} (hc : isG c = true) (h : spanF isG (c :: r) ≤ 18) : ∃ m : Nat, decOf ((c :: r).take (spanF isG (c :: r))) = some m := by
 have e : (c :: r).take (spanF isG (c :: r)) = c :: r.take (spanF isG r) := by simp only [spanF, hc, if_true, List.take_succ_cons]
 obtain ⟨m, hm⟩ := decGo_digits ((c :: r).take (spanF isG (c :: r))) 0 (take_span isG (c :: r))
 refine ⟨m, ?_⟩
 rw [e] at hm ⊢
 unfold decOf
 simp only
 rw [if_pos (by rw [← e, List.length_take]; omega)]
 exact hm
theorem parse_call (w : WE E) {x : List UInt8} {m : Nat} (h : decOf x = some m) : lcall E 296 [.d (.s x), .d (.i .i64 10), .d (.i .i64 64)] [] = some (.tup [.d (.i .i64 m), .bad], []) := by
 rw [lcall_prim w.e296]
 simp only [parseImpl, h, and_self, if_true]
theorem quote_call (w : WE E) {s : List UInt8} (h : s.length ≤ 100000) : lcall E 463 [.d (.s s)] [] = some (quoteV s, []) := by
 rw [lcall_prim w.e463]
 simp only [quoteImpl, h, if_true]
theorem marks_call (w : WE E) (c : UInt8) : lcall E 334 [.d (.s [123, 125, 40, 41, 61, 46, 58, 59, 62]), uc c] [] = some (.d (.i .i64 (idxGo c 0 marks)), []) := by
 rw [lcall_prim w.e334]
 have h1 : (0 : Int) ≤ c.toNat := by omega
 have h2 : (c.toNat : Int) ≤ 255 := by have := c.toBitVec.isLt; have e : c.toNat = c.toBitVec.toNat := rfl; omega
 have h3 : ((c.toNat : Int)).toNat.toUInt8 = c := by rw [Qk]; simp
 simp only [idxbImpl, h1, h2, and_self, true_and, if_true, h3]
 rfl
theorem idx_marks (c : UInt8) : (0 ≤ idxGo c 0 marks) ↔ marks.contains c = true := by
 have key : ∀ (l : List UInt8) (i : Nat), 0 ≤ idxGo c i l ↔ l.contains c = true := by
  intro l
  induction l with
  | nil => intro i; simp [idxGo]
  | cons b l ih =>
   intro i
   simp only [idxGo]
   by_cases h : b = c
   ·simp [h]
   ·rw [if_neg h, ih]
    have h' : ¬ c = b := fun e => h e.symm
    simp [h']
 exact key _ _
theorem one_ok (w : WE E) {c : UInt8} {r : List UInt8} (hs : (c :: r).length ≤ 100000) : lcall E 454 [.d (.s (c :: r))] [] = some (oneV (c :: r), []) := by
 refine call_q w.e454 ?_
 have h0 : (0 : Int) ≤ 0 := Int.le_refl 0
 have g0 : (c :: r)[(0 : Int).toNat]? = some c := rfl
 have g0' : (c :: r)[0]? = some c := rfl
 have l0 : (0 : Int) ≤ ((c :: r).length : Nat) := by omega
 have l1 : (1 : Int) ≤ ((c :: r).length : Nat) := by simp; omega
 have cl := letter_ok w c
 cases hL : isL c with
 | true =>
  rw [hL] at cl
  have c1 := span_ok w (name_ok w) (s := c :: r) hs
  have hle := spanF_le isW (c :: r)
  have e : oneV (c :: r) = .tup [.agg [.d (.i .i64 1), .d (.s ((c :: r).take (spanF isW (c :: r)))), .d (.i .i64 0), .d (.i .i64 0)], .d (.i .i64 (spanF isW (c :: r) : Nat)), .d (.b true)] := by
   simp only [oneV, oneF, hL, if_true]
  rw [e]
  generalize spanF isW (c :: r) = k at *
  have k0 : (0 : Int) ≤ (k : Nat) := by omega
  have k1 : (k : Int) ≤ ((c :: r).length : Nat) := by omega
  generalize hz : c :: r = z at *
  simp only [evAll, Nat.reduceBEq, ↓reduceIte, Nat.reduceEqDiff, Nat.reduceAdd, Nat.reduceLeDiff, Nat.reduceSub, Nat.reduceLT, reduceCtorEq, Int.reduceEq, Int.reduceLT, Int.reduceLE, Int.reduceNeg, loopQ, Int.reduceToNat, Nat.reduceMul, List.range'_one, c454, h0, g0, g0', cl, c1, k0, k1, Int.le_refl, and_self, and_true, true_and, Qk, List.drop_zero]
 | false =>
  rw [hL] at cl
  have cg := digit_ok w c
  cases hG : isG c with
  | true =>
   rw [hG] at cg
   have c1 := span_ok w (digit_ok w) (s := c :: r) hs
   have hle := spanF_le isG (c :: r)
   by_cases h18 : 18 < spanF isG (c :: r)
   ·have e : oneV (c :: r) = .tup [.agg [.d (.i .i64 0), .d (.s []), .d (.i .i64 0), .d (.i .i64 0)], .d (.i .i64 0), .d (.b false)] := by
     simp only [oneV, oneF, badK, hL, hG, h18, if_true, Qm, if_false]
    rw [e]
    generalize spanF isG (c :: r) = k at *
    have k0 : (18 : Int) < (k : Nat) := by omega
    generalize hz : c :: r = z at *
    simp only [evAll, Nat.reduceBEq, ↓reduceIte, Nat.reduceEqDiff, Nat.reduceAdd, Nat.reduceLeDiff, Nat.reduceSub, Nat.reduceLT, reduceCtorEq, Int.reduceEq, Int.reduceLT, Int.reduceLE, Int.reduceNeg, loopQ, Int.reduceToNat, Nat.reduceMul, List.range'_one, c454, h0, g0, g0', cl, cg, c1, eq_true k0]
   ·obtain ⟨m, hm⟩ := dec_span (r := r) hG (by omega)
    have c2 := parse_call w hm
    have vb : valIds 0 V.bad = [] := rfl
    have e : oneV (c :: r) = .tup [.agg [.d (.i .i64 2), .d (.s []), .d (.i .i64 m), .d (.i .i64 0)], .d (.i .i64 (spanF isG (c :: r) : Nat)), .d (.b true)] := by
     simp only [oneV, oneF, hL, hG, h18, hm, if_true, Qm, if_false]
    rw [e]
    generalize spanF isG (c :: r) = k at *
    have k18 : ¬ (18 : Int) < (k : Nat) := by omega
    have k0 : (0 : Int) ≤ (k : Nat) := by omega
    have k1 : (k : Int) ≤ ((c :: r).length : Nat) := by omega
    generalize hz : c :: r = z at *
    simp only [evAll, Nat.reduceBEq, ↓reduceIte, Nat.reduceEqDiff, Nat.reduceAdd, Nat.reduceLeDiff, Nat.reduceSub, Nat.reduceLT, reduceCtorEq, Int.reduceEq, Int.reduceLT, Int.reduceLE, Int.reduceNeg, loopQ, Int.reduceToNat, Nat.reduceMul, List.range'_one, c454, h0, g0, g0', cl, cg, c1, k18, c2, vb, k0, k1, Int.le_refl, and_self, and_true, true_and, Qk, List.drop_zero]
  | false =>
   rw [hG] at cg
   by_cases h34 : (c.toNat : Int) = 34
   ·have c1 := quote_call w (s := c :: r) hs
    have h34' : c.toNat = 34 := by omega
    cases hq : qGo 1 [] r with
    | none =>
     have e : oneV (c :: r) = .tup [.agg [.d (.i .i64 3), .d (.s []), .d (.i .i64 0), .d (.i .i64 0)], .d (.i .i64 0), .d (.b false)] := by
      simp only [oneV, oneF, badK, hL, hG, h34', hq, if_true, Qm, if_false]
     have e2 : quoteV (c :: r) = .tup [.d (.s []), .d (.i .i64 0), .d (.b false)] := by simp only [quoteV, List.drop_succ_cons, List.drop_zero, hq]
     rw [e]; rw [e2] at c1
     generalize hz : c :: r = z at *
     simp only [evAll, Nat.reduceBEq, ↓reduceIte, Nat.reduceEqDiff, Nat.reduceAdd, Nat.reduceLeDiff, Nat.reduceSub, Nat.reduceLT, reduceCtorEq, Int.reduceEq, Int.reduceLT, Int.reduceLE, Int.reduceNeg, loopQ, Int.reduceToNat, Nat.reduceMul, List.range'_one, c454, h0, g0, g0', cl, cg, eq_true h34, c1]
    | some p =>
     obtain ⟨t, n⟩ := p
     have e : oneV (c :: r) = .tup [.agg [.d (.i .i64 3), .d (.s t), .d (.i .i64 0), .d (.i .i64 0)], .d (.i .i64 n), .d (.b true)] := by
      simp only [oneV, oneF, badK, hL, hG, h34', hq, if_true, Qm, if_false]
     have e2 : quoteV (c :: r) = .tup [.d (.s t), .d (.i .i64 n), .d (.b true)] := by simp only [quoteV, List.drop_succ_cons, List.drop_zero, hq]
     rw [e]; rw [e2] at c1
     generalize hz : c :: r = z at *
     simp only [evAll, Nat.reduceBEq, ↓reduceIte, Nat.reduceEqDiff, Nat.reduceAdd, Nat.reduceLeDiff, Nat.reduceSub, Nat.reduceLT, reduceCtorEq, Int.reduceEq, Int.reduceLT, Int.reduceLE, Int.reduceNeg, loopQ, Int.reduceToNat, Nat.reduceMul, List.range'_one, c454, h0, g0, g0', cl, cg, eq_true h34, c1]
   ·have c1 := marks_call w c
    have h34' : ¬ c.toNat = 34 := by omega
    have hm := idx_marks c
    by_cases hi : 0 ≤ idxGo c 0 marks
    ·have e : oneV (c :: r) = .tup [.agg [.d (.i .i64 4), .d (.s [c]), .d (.i .i64 0), .d (.i .i64 0)], .d (.i .i64 1), .d (.b true)] := by
      simp only [oneV, oneF, badK, hL, hG, h34', hm.1 hi, if_true, Qm, if_false]
      rfl
     rw [e]
     have t1 : (c :: r).take (1 : Int).toNat = [c] := rfl
     have t1' : (c :: r).take 1 = [c] := rfl
     generalize idxGo c 0 marks = k at *
     generalize hz : c :: r = z at *
     simp only [evAll, Nat.reduceBEq, ↓reduceIte, Nat.reduceEqDiff, Nat.reduceAdd, Nat.reduceLeDiff, Nat.reduceSub, Nat.reduceLT, reduceCtorEq, Int.reduceEq, Int.reduceLT, Int.reduceLE, Int.reduceNeg, loopQ, Int.reduceToNat, Nat.reduceMul, List.range'_one, c454, h0, g0, g0', cl, cg, h34, c1, ge_iff_le, eq_true hi, l1, Int.le_refl, and_self, and_true, true_and, Qk, List.drop_zero, t1, t1', Int.reduceLE]
    ·have hc : marks.contains c = false := by
      cases h : marks.contains c with
      | false => rfl
      | true => exact absurd (hm.2 h) hi
     have e : oneV (c :: r) = .tup [.agg [.d (.i .i64 0), .d (.s []), .d (.i .i64 0), .d (.i .i64 0)], .d (.i .i64 0), .d (.b false)] := by
      simp only [oneV, oneF, badK, hL, hG, h34', hc, if_true, Qm, if_false]
     rw [e]
     generalize idxGo c 0 marks = k at *
     generalize hz : c :: r = z at *
     simp only [evAll, Nat.reduceBEq, ↓reduceIte, Nat.reduceEqDiff, Nat.reduceAdd, Nat.reduceLeDiff, Nat.reduceSub, Nat.reduceLT, reduceCtorEq, Int.reduceEq, Int.reduceLT, Int.reduceLE, Int.reduceNeg, loopQ, Int.reduceToNat, Nat.reduceMul, List.range'_one, c454, h0, g0, g0', cl, cg, h34, c1, ge_iff_le, hi]
end Ab.Wd
namespace Ab.Wd
open Go
variable {E : Nat → Option Fn}
end Ab.Wd
namespace Ab.Wd
open Go
variable {E : Nat → Option Fn}
end Ab.Wd
namespace Ab.Wd
open Go
variable {E : Nat → Option Fn}
def joinW (l : List AW) (x : List AW × Option Nat) : List AW × Option Nat := (l ++ x.1, x.2)
theorem wordsG_skip {f at_ k n : Nat} {s : List UInt8} (h : blankG false s = n + blankG false (s.drop n)) : wordsG f at_ k s = wordsG f (at_ + n) k (s.drop n) := by
 cases f with
 | zero => rfl
 | succ f =>
  have e1 : (s.drop n).drop (blankG false (s.drop n)) = s.drop (blankG false s) := by rw [List.drop_drop, h]
  have e2 : at_ + n + blankG false (s.drop n) = at_ + blankG false s := by rw [h]; omega
  simp only [wordsG, e1, e2]
theorem wordsG_nil (f at_ k : Nat) : wordsG f at_ k [] = ([], none) := by
 cases f with
 | zero => rfl
 | succ f => simp [wordsG, blankG]
theorem wordsG_word {f at_ k : Nat} {c : UInt8} {r : List UInt8} (h0 : blankG false (c :: r) = 0) : wordsG (f + 1) at_ k (c :: r) = match oneF (c :: r) with
   | none => ([], some at_)
   | some (w, n) => if 400 ≤ k then ([], some at_) else ((w, at_) :: (wordsG f (at_ + n) (k + 1) ((c :: r).drop n)).1, (wordsG f (at_ + n) (k + 1) ((c :: r).drop n)).2) := by
 simp only [wordsG, h0, List.drop_zero, Nat.add_zero] <;> rfl
end Ab.Wd
namespace Ab.Wd
open Go
variable {E : Nat → Option Fn}
theorem words_call (w : WE E) (s : List UInt8) : lcall E 450 [.d (.s s)] [] = some (.d (.f 452 [] [.q [.s s] 0]), []) := by
 refine call_q w.e450 ?_
 simp only [evAll, Nat.reduceBEq, ↓reduceIte, Nat.reduceEqDiff, Nat.reduceAdd, Nat.reduceLeDiff, Nat.reduceSub, Nat.reduceLT, reduceCtorEq, Int.reduceEq, Int.reduceLT, Int.reduceLE, Int.reduceNeg, loopQ, Int.reduceToNat, Nat.reduceMul, List.range'_one, c450]
abbrev lpW (j : Nat) : Option Obj := some (.lp j 10447 [.ptr 1 0, .ptr 2 0, .ptr 3 0])
abbrev bI (n : Int) : Option Obj := some (.box [.d (.i .i64 n)])
abbrev bB (b : Bool) : Option Obj := some (.box [.d (.b b)])
abbrev wV (k : Int) (t : List UInt8) (v p : Int) : V := .agg [.d (.i .i64 k), .d (.s t), .d (.i .i64 v), .d (.i .i64 p)]
theorem round_more (w : WE E) (l : List AW) (h4 : l.length < 400) (k : Int) (t : List UInt8) (v : Int) (p : Nat) :
  lcall E 10447 [.fn 10447 [.map 0] [], wV k t v p, .d (.b true)] [lpW 0, some (.box [.own 4 0 4 (l.map rowW)]), bI 0, bB false, some (.tok 0 4)] =
   some (.d (.b true), [lpW 0, some (.box [.own 4 1 4 ((l ++ [((k, t, v), p)]).map rowW)]), bI 0, bB false, some (.tok 1 4)]) := by
 have h4' : ¬ ((l.length : Nat) : Int) ≥ 400 := by omega
 have rm : roomy (l.length + 1) 40 = true := by unfold roomy; exact Ql (by omega)
 have ap : l.map rowW ++ [[D.i .i64 k, .s t, .i .i64 v, .i .i64 (p : Nat)]] = (l ++ [((k, t, v), p)]).map rowW := by rw [List.map_append]; rfl
 refine call_round w.e10447 (id := 0) rfl rfl rfl ?_
 simp only [evAll, Nat.reduceBEq, ↓reduceIte, Nat.reduceEqDiff, Nat.reduceAdd, Nat.reduceLeDiff, Nat.reduceSub, Nat.reduceLT, reduceCtorEq, Int.reduceEq, Int.reduceLT, Int.reduceLE, Int.reduceNeg, loopQ, Int.reduceToNat, Nat.reduceMul, List.range'_one, a10447, b10447, Qf, h4', rm, ap, List.length_cons, List.length_nil]
theorem round_bad (w : WE E) (l : List AW) (k : Int) (t : List UInt8) (v : Int) (p : Nat) (ok : Bool) (h : ok = false ∨ 400 ≤ l.length) :
  lcall E 10447 [.fn 10447 [.map 0] [], wV k t v p, .d (.b ok)] [lpW 0, some (.box [.own 4 0 4 (l.map rowW)]), bI 0, bB false, some (.tok 0 4)] =
   some (.d (.b false), [lpW 2, some (.box [.nil 4]), bI p, bB false, some (.tok 0 4)]) := by
 refine call_round w.e10447 (id := 0) rfl rfl rfl ?_
 cases ok with
 | false =>
  simp only [evAll, Nat.reduceBEq, ↓reduceIte, Nat.reduceEqDiff, Nat.reduceAdd, Nat.reduceLeDiff, Nat.reduceSub, Nat.reduceLT, reduceCtorEq, Int.reduceEq, Int.reduceLT, Int.reduceLE, Int.reduceNeg, loopQ, Int.reduceToNat, Nat.reduceMul, List.range'_one, a10447, b10447, Qf]
  rfl
 | true =>
  have h4' : ((l.length : Nat) : Int) ≥ 400 := by
   rcases h with h | h
   ·cases h
   ·omega
  simp only [evAll, Nat.reduceBEq, ↓reduceIte, Nat.reduceEqDiff, Nat.reduceAdd, Nat.reduceLeDiff, Nat.reduceSub, Nat.reduceLT, reduceCtorEq, Int.reduceEq, Int.reduceLT, Int.reduceLE, Int.reduceNeg, loopQ, Int.reduceToNat, Nat.reduceMul, List.range'_one, a10447, b10447, Qf, eq_true h4']
  rfl
theorem blank_idem : ∀ (b : Bool) (s : List UInt8), blankG false (s.drop (blankG b s)) = 0
 | b, [] => by cases b <;> rfl
 | false, c :: r => by
  simp only [blankG]
  by_cases h : isB c = true
  ·rw [if_pos h, List.drop_succ_cons]; exact blank_idem false r
  ·rw [if_neg h]
   by_cases h2 : c.toNat = 35
   ·rw [if_pos h2, List.drop_succ_cons]; exact blank_idem true r
   ·rw [if_neg h2, List.drop_zero]
    simp only [blankG]
    rw [if_neg h, if_neg h2]
 | true, c :: r => by
  simp only [blankG]
  split
  ·rw [List.drop_succ_cons]; exact blank_idem true r
  ·rw [List.drop_succ_cons]; exact blank_idem false r
def waLoop : CCode := match c452.body with
 | .seq _ (.block _ (.loop _ c)) => c
 | _ => .skip
theorem wa_loop (w : WE E) {s : List UInt8} (hs : s.length ≤ 1500) {R : List AW × Option Nat} {Q : Ex → St → Prop}
  (hx : ∀ l, R = (l, none) → ∀ tm, Q (.exit 0) ⟨tm, [lpW 0, some (.box [.own 4 0 4 (l.map rowW)]), bI 0, bB false, some (.tok 0 4)]⟩)
  (hr : ∀ l p, R = (l, some p) → ∀ tm (x : List (Option Obj)), Q .ret ⟨tm, lpW 2 :: some (.box [.nil 4]) :: bI p :: bB false :: some (.tok 1 4) :: x⟩) : ∀ (m i f : Nat) (l : List AW), i ≤ s.length → s.length < i + m → s.length < i + f → l.length ≤ i →
  blankG false (s.drop i) = 0 → joinW l (wordsG f i l.length (s.drop i)) = R →
  LX E waLoop ⟨[0, 1, 3], [], [], [], [], true⟩ 5 ⟨[(0, .fn 10447 [.map 0] []), (1, .d (.q [.s s] 0)), (3, .d (.i .i64 i))], [lpW 0, some (.box [.own 4 0 4 (l.map rowW)]), bI 0, bB false, some (.tok 0 4)]⟩ Q := by
 intro m
 induction m with
 | zero => intro i f l hi h; omega
 | succ m ih =>
  intro i f l hi hm hf hl hb0 hR
  by_cases hlt : i < s.length
  ·have hy : (i : Int) < s.length := by omega
   have h0 : (0 : Int) ≤ i := by omega
   have hd : s.drop i = s[i] :: s.drop (i + 1) := List.drop_eq_getElem_cons hlt
   have hln : (s.drop i).length = s.length - i := List.length_drop
   obtain ⟨f, rfl⟩ : ∃ f', f = f' + 1 := ⟨f - 1, by omega⟩
   have hle2 : (i : Int) ≤ (s.length : Nat) := by omega
   have htk : s.take s.length = s := List.take_length
   have c1 := one_ok w (c := s[i]) (r := s.drop (i + 1)) (by rw [← hd]; omega)
   rw [hd] at hb0
   rw [hd, wordsG_word hb0] at hR
   rw [← hd] at hR c1
   generalize s[i] = c at *
   refine lx_step ?_
   cases ho : oneF (s.drop i) with
   | none =>
    rw [ho] at hR
    have ec : oneV (s.drop i) = .tup [wV (badK (s.drop i)) [] 0 0, .d (.i .i64 0), .d (.b false)] := by simp only [oneV, ho]
    rw [ec] at c1
    have cr := round_bad w l (badK (s.drop i)) [] 0 i false (.inl rfl)
    simp only [evAll, Nat.reduceBEq, ↓reduceIte, Nat.reduceEqDiff, Nat.reduceAdd, Nat.reduceLeDiff, Nat.reduceSub, Nat.reduceLT, reduceCtorEq, Int.reduceEq, Int.reduceLT, Int.reduceLE, Int.reduceNeg, loopQ, Int.reduceToNat, Nat.reduceMul, List.range'_one, waLoop, c452, eq_true hy, h0, c1, eq_true hle2, Int.le_refl, and_self, and_true, true_and, Qk, htk, cr]
    exact hr _ _ hR.symm _ _
   | some p =>
    obtain ⟨⟨k, t, v⟩, n⟩ := p
    rw [ho] at hR
    have hn := oneF_le ho
    rw [hln] at hn
    have ec : oneV (s.drop i) = .tup [wV k t v 0, .d (.i .i64 n), .d (.b true)] := by simp only [oneV, ho]
    rw [ec] at c1
    by_cases h4 : 400 ≤ l.length
    ·simp only [h4, if_true] at hR
     have cr := round_bad w l k t v i true (.inr h4)
     simp only [evAll, Nat.reduceBEq, ↓reduceIte, Nat.reduceEqDiff, Nat.reduceAdd, Nat.reduceLeDiff, Nat.reduceSub, Nat.reduceLT, reduceCtorEq, Int.reduceEq, Int.reduceLT, Int.reduceLE, Int.reduceNeg, loopQ, Int.reduceToNat, Nat.reduceMul, List.range'_one, waLoop, c452, eq_true hy, h0, c1, eq_true hle2, Int.le_refl, and_self, and_true, true_and, Qk, htk, cr]
     exact hr _ _ hR.symm _ _
    ·simp only [h4, if_false] at hR
     have cr := round_more w l (by omega) k t v i
     have c3 := blank_ok w (s := s.drop (i + n)) (by rw [List.length_drop]; omega)
     have hbl := blankG_le false (s.drop (i + n))
     rw [List.length_drop] at hbl
     have hid := blank_idem false (s.drop (i + n))
     rw [List.drop_drop] at hid
     have hle3 : ((i + n : Nat) : Int) ≤ (s.length : Nat) := by omega
     have h03 : (0 : Int) ≤ ((i + n : Nat) : Int) := by omega
     have wn : IntKind.i64.wrap ((i : Int) + (n : Nat)) = ((i + n : Nat) : Int) := by rw [i64w (by omega) (by omega)]; omega
     have hsk : wordsG f (i + n) (l.length + 1) (s.drop (i + n)) = wordsG f (i + n + blankG false (s.drop (i + n))) (l.length + 1) (s.drop (i + n + blankG false (s.drop (i + n)))) := by
      rw [wordsG_skip (n := blankG false (s.drop (i + n))) (by rw [List.drop_drop, hid]; omega), List.drop_drop]
     rw [List.drop_drop, hsk] at hR
     generalize blankG false (s.drop (i + n)) = b at *
     have wb : IntKind.i64.wrap (((i + n : Nat) : Int) + (b : Nat)) = ((i + n + b : Nat) : Int) := by rw [i64w (by omega) (by omega)]; omega
     have ih' := ih (i + n + b) f (l ++ [((k, t, v), i)]) (by omega) (by omega) (by omega) (by simp; omega) hid (by
      rw [← hR, Qg, List.length_singleton]
      simp only [joinW, List.append_assoc, List.singleton_append])
     simp only [evAll, Nat.reduceBEq, ↓reduceIte, Nat.reduceEqDiff, Nat.reduceAdd, Nat.reduceLeDiff, Nat.reduceSub, Nat.reduceLT, reduceCtorEq, Int.reduceEq, Int.reduceLT, Int.reduceLE, Int.reduceNeg, loopQ, Int.reduceToNat, Nat.reduceMul, List.range'_one, waLoop, c452, eq_true hy, h0, c1, eq_true hle2, Int.le_refl, and_self, and_true, true_and, Qk, htk, cr, wn, h03, eq_true hle3, c3, wb]
     exact ⟨_, rfl, ih'⟩
  ·have hn : ¬ ((i : Int) < s.length) := by omega
   rw [List.drop_eq_nil_of_le (by omega), wordsG_nil, joinW, List.append_nil] at hR
   refine lx_step ?_
   simp only [evAll, Nat.reduceBEq, ↓reduceIte, Nat.reduceEqDiff, Nat.reduceAdd, Nat.reduceLeDiff, Nat.reduceSub, Nat.reduceLT, reduceCtorEq, Int.reduceEq, Int.reduceLT, Int.reduceLE, Int.reduceNeg, loopQ, Int.reduceToNat, Nat.reduceMul, List.range'_one, waLoop, c452, hn]
   exact hx _ hR.symm _
theorem wa_ok (w : WE E) {s : List UInt8} (hs : s.length ≤ 1500) : ∀ (l : List AW) (e : Option Nat), allF s = (l, e) →
  lcall E 452 [.fn 10447 [.map 0] [], .d (.q [.s s] 0)] [lpW 0, some (.box [.own 4 0 4 []]), bI 0, bB false, some (.tok 0 4)] =
   some (.tup [], match e with
    | none => [lpW 0, some (.box [.own 4 0 4 (l.map rowW)]), bI 0, bB false, some (.tok 0 4)]
    | some p => [lpW 2, some (.box [.nil 4]), bI p, bB false, some (.tok 1 4)]) := by
 intro l e hR
 refine call_q w.e452 ?_
 have c1 := blank_ok w (s := s) (by omega)
 have hbl := blankG_le false s
 have hid := blank_idem false s
 have e0 : allF s = wordsG (s.length + 1) (blankG false s) 0 (s.drop (blankG false s)) := by
  unfold allF
  rw [if_neg (by omega), wordsG_skip (n := blankG false s) (by rw [hid]; omega), Nat.zero_add]
 simp only [evAll, Nat.reduceBEq, ↓reduceIte, Nat.reduceEqDiff, Nat.reduceAdd, Nat.reduceLeDiff, Nat.reduceSub, Nat.reduceLT, reduceCtorEq, Int.reduceEq, Int.reduceLT, Int.reduceLE, Int.reduceNeg, loopQ, Int.reduceToNat, Nat.reduceMul, List.range'_one, c452, c1]
 generalize blankG false s = b at *
 refine wa_loop w hs (R := (l, e)) (fun l' hl tm => ?_) (fun l' p hl tm x => ?_) (s.length + 1) b (s.length + 1) [] (by omega) (by omega) (by omega) (by simp) hid (by rw [← hR, e0]; rfl)
 ·cases hl
  simp only [evAll, Nat.reduceBEq, ↓reduceIte, Nat.reduceEqDiff, Nat.reduceAdd, Nat.reduceLeDiff, Nat.reduceSub, Nat.reduceLT, reduceCtorEq, Int.reduceEq, Int.reduceLT, Int.reduceLE, Int.reduceNeg, loopQ, Int.reduceToNat, Nat.reduceMul, List.range'_one, c452]
 ·cases hl
  simp only [evAll, Nat.reduceBEq, ↓reduceIte, Nat.reduceEqDiff, Nat.reduceAdd, Nat.reduceLeDiff, Nat.reduceSub, Nat.reduceLT, reduceCtorEq, Int.reduceEq, Int.reduceLT, Int.reduceLE, Int.reduceNeg, loopQ, Int.reduceToNat, Nat.reduceMul, List.range'_one, c452]
theorem all_ok (w : WE E) (s : List UInt8) : lcall E 447 [.d (.s s)] [] = some (ansW (allF s), []) := by
 refine call_q w.e447 ?_
 by_cases h : (s.length : Int) > 1500
 ·have e : allF s = ([], some 0) := by unfold allF; rw [if_pos (by omega)]
  rw [e]
  simp only [evAll, Nat.reduceBEq, ↓reduceIte, Nat.reduceEqDiff, Nat.reduceAdd, Nat.reduceLeDiff, Nat.reduceSub, Nat.reduceLT, reduceCtorEq, Int.reduceEq, Int.reduceLT, Int.reduceLE, Int.reduceNeg, loopQ, Int.reduceToNat, Nat.reduceMul, List.range'_one, c447, eq_true h, ansW]
 have c1 := words_call w s
 obtain ⟨⟨l, e⟩, he⟩ : ∃ x, allF s = x := ⟨_, rfl⟩
 have c2 := wa_ok w (s := s) (by omega) l e he
 rw [he]
 cases e with
 | none =>
  simp only [evAll, Nat.reduceBEq, ↓reduceIte, Nat.reduceEqDiff, Nat.reduceAdd, Nat.reduceLeDiff, Nat.reduceSub, Nat.reduceLT, reduceCtorEq, Int.reduceEq, Int.reduceLT, Int.reduceLE, Int.reduceNeg, loopQ, Int.reduceToNat, Nat.reduceMul, List.range'_one, c447, h, c1, c2, ansW]
 | some p =>
  simp only [evAll, Nat.reduceBEq, ↓reduceIte, Nat.reduceEqDiff, Nat.reduceAdd, Nat.reduceLeDiff, Nat.reduceSub, Nat.reduceLT, reduceCtorEq, Int.reduceEq, Int.reduceLT, Int.reduceLE, Int.reduceNeg, loopQ, Int.reduceToNat, Nat.reduceMul, List.range'_one, c447, h, c1, c2, ansW]
end Ab.Wd
namespace Ab.Wd
open Go
variable {E : Nat → Option Fn}
abbrev tk1 : Option Obj := some (.tok 0 1)
end Ab.Wd
namespace Ab.Wd
open Go
def putW (x : AW) (r : List AW × Option Nat) : List AW × Option Nat := match r with | (l, e) => (x :: l, e)
def stepW (f : Nat → Nat → List UInt8 → List AW × Option Nat) (at_ k : Nat) (s : List UInt8) : List AW × Option Nat :=
 match s with
 | [] => ([], none)
 | c :: r => match oneF (c :: r) with
  | none => ([], some at_)
  | some (w, n) => if 400 ≤ k then ([], some at_) else putW (w, at_) (f (at_ + n) (k + 1) ((c :: r).drop n))
def wordsH : Nat → Nat → Nat → List UInt8 → List AW × Option Nat
 | 0, _, _, _ => ([], none)
 | f + 1, at_, k, s => stepW (wordsH f) (at_ + blankG false s) k (s.drop (blankG false s))
theorem wordsH_eq : ∀ (f at_ k : Nat) (s : List UInt8), wordsH f at_ k s = wordsG f at_ k s
 | 0, _, _, _ => rfl
 | f + 1, at_, k, s => by
  have ih := wordsH_eq f
  simp only [wordsH, wordsG, stepW]
  cases s.drop (blankG false s) with
  | nil => rfl
  | cons c r =>
   simp only
   cases oneF (c :: r) with
   | none => rfl
   | some p =>
    obtain ⟨w, n⟩ := p
    simp only
    split
    ·rfl
    ·rw [ih]; rfl
def allH (s : List UInt8) : List AW × Option Nat := if 1500 < s.length then ([], some 0) else wordsH (s.length + 1) 0 0 s
theorem allH_eq (s : List UInt8) : allH s = allF s := by unfold allH allF; split <;> simp [wordsH_eq]
end Ab.Wd
namespace Ab.Wd
open Go
variable {E : Nat → Option Fn}
def badL : List (List UInt8) := [[97, 32, 63], [34], [34, 97], [97, 32, 34, 92, 110, 34], [49, 50, 51, 52, 53, 54, 55, 56, 57, 48, 49, 50, 51, 52, 53, 54, 55, 56, 57], [97, 45, 98], [65], [32, 32, 34, 97, 10, 98, 34], [43]]
def atL : List Nat := [2, 0, 0, 2, 0, 1, 0, 2, 0]
theorem bad_all : ∀ i, i < 9 → (allH (badL.getD i [])).2 = some (atL.getD i 0) := by decide +kernel
def manyT (n : Nat) : List UInt8 := (List.replicate n [59, 32]).flatten
theorem many_succ (n : Nat) : manyT n ++ [59, 32] = manyT (n + 1) := by simp [manyT, List.replicate_succ']
theorem many_len (n : Nat) : (manyT n).length = 2 * n := by simp [manyT]; omega
theorem many_all : (allH (manyT 400)).2 = none ∧ (allH (manyT 400)).1.length = 400 := by decide +kernel
theorem more_all : (allH (manyT 400 ++ [59])).2 = some 800 := by decide +kernel
def formL : List AW := [((2, [], 12), 0), ((1, [97, 98], 0), 2), ((2, [], 3), 5), ((4, [46], 0), 6), ((1, [120], 0), 7), ((4, [125], 0), 14), ((4, [62], 0), 15)]
theorem form_all : allH [49, 50, 97, 98, 32, 51, 46, 120, 32, 35, 32, 123, 32, 10, 125, 62] = (formL, none) := by decide +kernel
def wfLoop1 : CCode := match c443.body with
 | .seq _ (.seq _ (.seq _ (.seq _ (.seq (.seq _ (.block _ (.loop _ c))) _)))) => c
 | _ => .skip
def wfLoop2 : CCode := match c443.body with
 | .seq _ (.seq _ (.seq _ (.seq _ (.seq _ (.seq _ (.seq (.seq _ (.block _ (.loop _ c))) _)))))) => c
 | _ => .skip
def iRows (l : List Nat) : List (List D) := l.map fun (n : Nat) => [.i .i64 (n : Int)]
def sRows (l : List (List UInt8)) : List (List D) := l.map fun q => [.s q]
theorem wf_loop1 (w : WE E) {Q : Ex → St → Prop} (hQ : ∀ tm, Q (.exit 0) ⟨tm, [tk1, tk1]⟩) : ∀ (m i : Nat), i + m = 9 →
  LX E wfLoop1 ⟨[1, 2, 3], [], [], [], [], true⟩ 2 ⟨[(1, .own 0 0 1 (sRows badL)), (2, .own 1 0 1 (iRows atL)), (3, .d (.i .i64 i))], [tk1, tk1]⟩ Q := by
 have hl : ((sRows badL).length : Int) = 9 := rfl
 intro m
 induction m with
 | zero =>
  intro i hi
  have hn : ¬ ((i : Int) < 9) := by omega
  refine lx_step ?_
  generalize hr : sRows badL = R at *
  simp only [evAll, Nat.reduceBEq, ↓reduceIte, Nat.reduceEqDiff, Nat.reduceAdd, Nat.reduceLeDiff, Nat.reduceSub, Nat.reduceLT, reduceCtorEq, Int.reduceEq, Int.reduceLT, Int.reduceLE, Int.reduceNeg, loopQ, Int.reduceToNat, Nat.reduceMul, List.range'_one, wfLoop1, c443, hl, hn]
  exact hQ _
 | succ m ih =>
  intro i hi
  have hy : ((i : Int) < 9) := by omega
  have h0 : (0 : Int) ≤ (i : Nat) := by omega
  have la : i < badL.length := by show i < 9; omega
  have lb : i < atL.length := by show i < 9; omega
  have ga : (sRows badL)[i]? = some [.s (badL.getD i [])] := by
   rw [sRows, List.getElem?_map, Qd la]
   simp only [Option.map_some, List.getD_eq_getElem?_getD, Qd la, Option.getD_some]
  have gb : (iRows atL)[i]? = some [.i .i64 ((atL.getD i 0 : Nat) : Int)] := by
   rw [iRows, List.getElem?_map, Qd lb]
   simp only [Option.map_some, List.getD_eq_getElem?_getD, Qd lb, Option.getD_some]
  have wr : IntKind.i64.wrap ((i : Int) + 1) = ((i + 1 : Nat) : Int) := by rw [i64w (by omega) (by omega)]; omega
  have ih' := ih (i + 1) (by omega)
  have hb := bad_all i (by omega)
  rw [allH_eq] at hb
  have c1 := all_ok w (badL.getD i [])
  generalize badL.getD i [] = x at *
  generalize atL.getD i 0 = p at *
  obtain ⟨⟨l, e⟩, he⟩ : ∃ y, allF x = y := ⟨_, rfl⟩
  rw [he] at hb c1
  simp only at hb
  subst hb
  simp only [ansW] at c1
  generalize hr1 : sRows badL = R1 at *
  generalize hr2 : iRows atL = R2 at *
  refine lx_step ?_
  simp only [evAll, Nat.reduceBEq, ↓reduceIte, Nat.reduceEqDiff, Nat.reduceAdd, Nat.reduceLeDiff, Nat.reduceSub, Nat.reduceLT, reduceCtorEq, Int.reduceEq, Int.reduceLT, Int.reduceLE, Int.reduceNeg, loopQ, Int.reduceToNat, Nat.reduceMul, List.range'_one, wfLoop1, c443, hl, eq_true hy, h0, ga, gb, c1, wr, bne_self_eq_false, not_true_eq_false, decide_false]
  exact ⟨_, rfl, ih'⟩
theorem wf_loop2 {Q : Ex → St → Prop} (hQ : ∀ tm, look tm 7 = .d (.s (manyT 400)) → Q (.exit 2) ⟨tm, [tk1, tk1]⟩) : ∀ (m i : Nat), i + m = 400 →
  LX E wfLoop2 ⟨[7, 8], [], [], [], [], true⟩ 2 ⟨[(7, .d (.s (manyT i))), (8, .d (.i .i64 i))], [tk1, tk1]⟩ Q := by
 intro m
 induction m with
 | zero =>
  intro i hi
  have hn : ¬ ((i : Int) < 400) := by omega
  obtain rfl : i = 400 := by omega
  refine lx_step ?_
  simp only [evAll, Nat.reduceBEq, ↓reduceIte, Nat.reduceEqDiff, Nat.reduceAdd, Nat.reduceLeDiff, Nat.reduceSub, Nat.reduceLT, reduceCtorEq, Int.reduceEq, Int.reduceLT, Int.reduceLE, Int.reduceNeg, loopQ, Int.reduceToNat, Nat.reduceMul, List.range'_one, wfLoop2, c443, hn]
  exact hQ _ rfl
 | succ m ih =>
  intro i hi
  have hy : ((i : Int) < 400) := by omega
  have wr : IntKind.i64.wrap ((i : Int) + 1) = ((i + 1 : Nat) : Int) := by rw [i64w (by omega) (by omega)]; omega
  have ih' := ih (i + 1) (by omega)
  have hs := many_succ i
  have hl := many_len i
  generalize manyT i = t at *
  have l1 : t.length + 2 ≤ 4611686018427387904 := by omega
  have l2 : t.length ≤ 4611686018427387902 := by omega
  refine lx_step ?_
  simp only [evAll, Nat.reduceBEq, ↓reduceIte, Nat.reduceEqDiff, Nat.reduceAdd, Nat.reduceLeDiff, Nat.reduceSub, Nat.reduceLT, reduceCtorEq, Int.reduceEq, Int.reduceLT, Int.reduceLE, Int.reduceNeg, loopQ, Int.reduceToNat, Nat.reduceMul, List.range'_one, wfLoop2, c443, eq_true hy, l1, l2, List.length_cons, List.length_nil, hs, wr]
  exact ⟨_, rfl, ih'⟩
theorem wordForms_ok (w : WE E) (e443 : E 443 = some (.code c443)) (hb : lcall E 446 [] [] = some (.d (.b true), [])) : lcall E 443 [] [] = some (.d (.b true), []) := by
 have c1 := all_ok w (manyT 400)
 have c2 := all_ok w (manyT 400 ++ [59])
 have c3 := all_ok w (repB 1501)
 have c4 := all_ok w [49, 50, 97, 98, 32, 51, 46, 120, 32, 35, 32, 123, 32, 10, 125, 62]
 have h1 := many_all
 have h2 := more_all
 have h3 : allF (repB 1501) = ([], some 0) := by unfold allF; rw [if_pos (by simp [repB])]
 rw [allH_eq] at h1 h2
 obtain ⟨⟨l, e⟩, he⟩ : ∃ y, allF (manyT 400) = y := ⟨_, rfl⟩
 obtain ⟨⟨l2, e2⟩, he2⟩ : ∃ y, allF (manyT 400 ++ [59]) = y := ⟨_, rfl⟩
 rw [he] at h1 c1
 rw [he2] at h2 c2
 rw [h3] at c3
 rw [← allH_eq, form_all] at c4
 simp only at h1 h2
 obtain ⟨rfl, hl⟩ := h1
 subst h2
 simp only [ansW] at c1 c2 c3
 simp only [ansW, formL, Qb, Qc, rowW] at c4
 have hml := many_len 400
 have rm : roomy 1501 1 = true := by decide
 refine call_q e443 ?_
 simp only [evAll, Nat.reduceBEq, ↓reduceIte, Nat.reduceEqDiff, Nat.reduceAdd, Nat.reduceLeDiff, Nat.reduceSub, Nat.reduceLT, reduceCtorEq, Int.reduceEq, Int.reduceLT, Int.reduceLE, Int.reduceNeg, loopQ, Int.reduceToNat, Nat.reduceMul, List.range'_one, c443, hb]
 refine wf_loop1 w (fun tm => ?_) 9 0 rfl
 simp only [evAll, Nat.reduceBEq, ↓reduceIte, Nat.reduceEqDiff, Nat.reduceAdd, Nat.reduceLeDiff, Nat.reduceSub, Nat.reduceLT, reduceCtorEq, Int.reduceEq, Int.reduceLT, Int.reduceLE, Int.reduceNeg, loopQ, Int.reduceToNat, Nat.reduceMul, List.range'_one, c443]
 refine wf_loop2 (fun tm t7 => ?_) 400 0 rfl
 generalize manyT 400 = t at *
 have l1 : t.length + 1 ≤ 4611686018427387904 := by omega
 have l2' : t.length ≤ 4611686018427387903 := by omega
 simp only [evAll, Nat.reduceBEq, ↓reduceIte, Nat.reduceEqDiff, Nat.reduceAdd, Nat.reduceLeDiff, Nat.reduceSub, Nat.reduceLT, reduceCtorEq, Int.reduceEq, Int.reduceLT, Int.reduceLE, Int.reduceNeg, loopQ, Int.reduceToNat, Nat.reduceMul, List.range'_one, t7, c1, l1, l2', List.length_cons, List.length_nil, c2, rm, c3, c4, Qf, hl]
 done
end Ab.Wd
namespace Ab
def tT : FTree := (.node 453 (.node 447 (.node 334 (.node 296 (.leaf 296 (.prim (parseImpl))) (.leaf 334 (.prim (idxbImpl)))) (.node 443 (.leaf 443 (.code c443)) (.node 446 (.leaf 446 (.code c446)) (.leaf 447 (.code c447))))) (.node 450 (.node 448 (.leaf 448 (.code c448)) (.node 449 (.leaf 449 (.code c449)) (.leaf 450 (.code c450)))) (.node 451 (.leaf 451 (.code c451)) (.node 452 (.leaf 452 (.code c452)) (.leaf 453 (.code c453)))))) (.node 458 (.node 455 (.node 454 (.leaf 454 (.code c454)) (.leaf 455 (.code c455))) (.node 456 (.leaf 456 (.code c456)) (.node 457 (.leaf 457 (.code c457)) (.leaf 458 (.code c458))))) (.node 461 (.node 459 (.leaf 459 (.code c459)) (.node 460 (.leaf 460 (.code c460)) (.leaf 461 (.code c461)))) (.node 462 (.leaf 462 (.code c462)) (.node 463 (.leaf 463 (.prim (quoteImpl))) (.leaf 10447 (.round [12, 13] [2, 3, 4] a10447 b10447)))))))
noncomputable def tF : Nat → Option Fn := FTree.get tT
end Ab
