/-
 Rows that are looked through: slices.IndexFunc, slices.ContainsFunc, whatever their elements' size.
-/
import Derived.Test.YthmlhnbjbbfklaaDoorPack4
import Derived.IntWalk
import Derived.Test.YthmlhnbjbbfklaaDoorPack3
import Derived.Test.YthmlhnbjbbfklaaDoorPack5
set_option linter.unusedSimpArgs false
set_option linter.unusedVariables false
set_option linter.unusedSectionVars false
set_option linter.unnecessarySimpa false
set_option maxRecDepth 100000
set_option maxHeartbeats 2000000
namespace Ab
open Go
theorem i64w {n : Int} (h1 : -9223372036854775808 ≤ n) (h2 : n ≤ 9223372036854775807) : IntKind.i64.wrap n = n := Go.IntWalk.i64_in n ⟨h1, h2⟩
theorem evY :
  (∀ (a b c d e : V) (r : List V), takeV (a :: b :: c :: d :: e :: r) 0 5 = some [a, b, c, d, e]) ∧
  (∀ (a b c d e f : V) (r : List V), takeV (a :: b :: c :: d :: e :: f :: r) 0 6 = some [a, b, c, d, e, f]) ∧
  (∀ (a b c d e f g : V) (r : List V), takeV (a :: b :: c :: d :: e :: f :: g :: r) 0 7 = some [a, b, c, d, e, f, g]) ∧
  (∀ (a b c d e f g h : V) (r : List V), takeV (a :: b :: c :: d :: e :: f :: g :: h :: r) 0 8 = some [a, b, c, d, e, f, g, h]) ∧
  (∀ (a b c d e f g h i : V) (r : List V), takeV (a :: b :: c :: d :: e :: f :: g :: h :: i :: r) 0 9 = some [a, b, c, d, e, f, g, h, i]) ∧
  (∀ (a b c d e f g h i j : V) (r : List V), takeV (a :: b :: c :: d :: e :: f :: g :: h :: i :: j :: r) 0 10 = some [a, b, c, d, e, f, g, h, i, j]) ∧
  (∀ (a b c d e f g h i j k : V) (r : List V), takeV (a :: b :: c :: d :: e :: f :: g :: h :: i :: j :: k :: r) 0 11 = some [a, b, c, d, e, f, g, h, i, j, k]) ∧
  (∀ (a b c d e f g h i j k l : V) (r : List V), takeV (a :: b :: c :: d :: e :: f :: g :: h :: i :: j :: k :: l :: r) 0 12 = some [a, b, c, d, e, f, g, h, i, j, k, l]) := by
 refine ⟨?_, ?_, ?_, ?_, ?_, ?_, ?_, ?_⟩ <;> intros <;> simp [takeV]
@[reducible] def oo (d : Nat) (c : Cop) : CO := ⟨some d, c, none, 0⟩
theorem oo_eq (d : Nat) (c : Cop) : oo d c = ⟨some d, c, none, 0⟩ := rfl
theorem far_eq : far = 4096 := rfl
set_option linter.defProp false in
def evPl := And.intro @List.getD_cons_zero.{0} (And.intro @List.getD_cons_succ.{0} (And.intro @Bool.or_self (And.intro @Bool.or_false (And.intro @Bool.false_or (And.intro @Bool.or_true (And.intro @Bool.true_or (And.intro @Bool.and_true (And.intro @Bool.true_and (And.intro @Bool.and_self (And.intro @Bool.and_false (And.intro @Bool.false_and (And.intro @Bool.not_false (And.intro @Bool.not_true (And.intro Qm (And.intro not_true_eq_false (And.intro not_false_eq_true (And.intro @true_and (And.intro @Qk (And.intro @Int.cast_ofNat_Int far_eq)))))))))))))))))))
set_option linter.defProp false in
def evAll := And.intro oo_eq (And.intro evPl (And.intro evY (And.intro evQ (And.intro evK (And.intro evG (And.intro evW (And.intro evX (And.intro evM (And.intro evN (And.intro evC (And.intro evR evH)))))))))))
section
variable {E : Nat → Option Fn} {α : Type}
end
open Go
@[reducible] def ki (n : Int) : A := .k (.d (.i .i64 n))
@[reducible] def om (d t : Nat) : CO := ⟨some d, .mv (.t t), none, 0⟩
@[reducible] def ol (d : Nat) (b : Bool) (n t : Nat) : CO := ⟨some d, .ld b n (.t t), none, 0⟩
@[reducible] def og (d : Nat) (c : Cop) (g : Nat) : CO := ⟨some d, c, some (g, true), 0⟩
@[reducible] def oh (d : Nat) (c : Cop) (g : Nat) : CO := ⟨some d, c, some (g, false), 0⟩
@[reducible] def ow (d : Nat) (c : Cop) (p : Nat) : CO := ⟨some d, c, none, p⟩
@[reducible] def oz (c : Cop) (p : Nat) : CO := ⟨none, c, none, p⟩
@[reducible] def sq (l : List CO) (c : CCode) : CCode := .seq (.region false l) c
@[reducible] def zE : List V := [.d (.i .i64 0), .d (.i .i64 0), .d (.i .i64 0), .d (.s []), .nil 4, .d (.i .i64 0), .d (.i .i64 0), .nil 8]
@[reducible] def zV : List V := [.d (.i .i64 0), .d (.i .i64 0), .d (.s []), .nil 4]
@[reducible] def kb (b : Bool) : A := .k (.d (.b b))
@[reducible] def fa (n t : Nat) : Cop := .fa n (.t t)
@[reducible] def ct (t : Nat) (a b : CCode) : CCode := .cond (.t t) a b
@[reducible] def ob (d : Nat) (o : BinOp) (x y : A) : CO := ⟨some d, .bin o x y, none, 0⟩
def c442 : CFn := ⟨sq ([
oo 4 (.mv (kb false))]) (
.seq (sq ([
oo 16 (.call 446 [] 0 true),
oo 17 (.un .not (.t 16))]) (
ct 17 (
sq ([
oo 4 (.mv (kb false))]) (
.ret)) (.skip))) (
.seq (sq ([
om 18 0,
oo 19 (.len 1 (.t 18)),
ob 20 .gtr (.t 19) (ki 100),
om 21 20,
oh 22 (.mv (.t 1)) 21,
oh 23 (.len 0 (.t 22)) 21,
oh 24 (.bin .gtr (.t 23) (ki 60)) 21,
oo 25 (.pick (.t 21) (kb true) (.t 24))]) (
ct 25 (
sq ([
oo 4 (.mv (kb true))]) (
.ret)) (.skip))) (
sq ([
oo 26 (.bsl 1 18 [(.s [])] [(0, (.k (.d (.s [97])))), (1, (.k (.d (.s [98, 50])))), (2, (.k (.d (.s [32])))), (3, (.k (.d (.s [55])))), (4, (.k (.d (.s [34])))), (5, (.k (.d (.s [92])))), (6, (.k (.d (.s [35])))), (7, (.k (.d (.s [10])))), (8, (.k (.d (.s [123])))), (9, (.k (.d (.s [61])))), (10, (.k (.d (.s [46])))), (11, (.k (.d (.s [59])))), (12, (.k (.d (.s [120, 32, 121])))), (13, (.k (.d (.s [34, 97, 32, 98, 34])))), (14, (.k (.d (.s [34, 92, 92, 34])))), (15, (.k (.d (.s [49, 50, 51, 52, 53, 54, 55, 56, 57, 48, 49, 50, 51, 52, 53, 54, 55])))), (16, (.k (.d (.s [126])))), (17, (.k (.d (.s [65]))))]),
om 5 26]) (
sq ([
oo 6 (.mv (.k (.d (.s []))))]) (
.seq (sq ([
oo 7 (.mv (ki 0))]) (
.block 0 (.loop ⟨[0, 1, 5, 6, 7], [], [], [], [], true⟩ (.seq (sq ([
om 27 7,
om 28 1,
oo 29 (.len 0 (.t 28)),
ob 30 .lss (.t 27) (.t 29)]) (
ct 30 (
.skip) (.exit 0))) (
.seq (.block 1 (.region false [
om 33 6,
om 34 5,
om 35 1,
om 36 7,
oo 37 (.ia 1 (.t 35) (.t 36)),
ol 38 false 1 37,
oo 39 (.conv .i64 (.t 38)),
om 40 5,
oo 41 (.len 0 (.t 40)),
ob 42 .rem (.t 39) (.t 41),
oo 43 (.ia 1 (.t 34) (.t 42)),
ol 44 false 1 43,
ob 45 .add (.t 33) (.t 44),
om 6 45])) (
.region false [
om 31 7,
ob 32 .add (.t 31) (ki 1),
om 7 32])))))) (
sq ([
om 46 0,
om 47 6,
oo 48 (.bsl 1 2 [(.s [])] [(0, .t 46), (1, .t 47)]),
om 8 48]) (
.seq (sq ([
oo 9 (.mv (ki 0))]) (
.block 2 (.loop ⟨[8, 9], [], [], [], [], true⟩ (.seq (sq ([
om 49 9,
ob 50 .lss (.t 49) (ki 2)]) (
ct 50 (
.skip) (.exit 2))) (
.seq (.block 3 (sq ([
om 54 8,
om 55 9,
oo 56 (.ia 1 (.t 54) (.t 55)),
ol 57 false 1 56,
oo 58 (.call 447 [.t 57] 0 true),
om 53 58,
oo 59 (.ext (.t 53) 0),
oo 60 (.ext (.t 53) 1),
oo 61 (.ext (.t 53) 2),
om 10 59,
om 11 60,
om 12 61]) (
sq ([
om 63 8,
om 64 9,
oo 65 (.ia 1 (.t 63) (.t 64)),
ol 66 false 1 65,
oo 67 (.call 448 [.t 66] 0 true),
om 62 67,
oo 68 (.ext (.t 62) 0),
oo 69 (.ext (.t 62) 1),
oo 70 (.ext (.t 62) 2),
om 13 68,
om 14 69,
om 15 70]) (
sq ([
om 71 12,
om 72 15,
oo 73 (.eqb true (.t 71) (.t 72)),
om 74 73,
oh 75 (.mv (.t 11)) 74,
oh 76 (.mv (.t 14)) 74,
oh 77 (.bin .neq (.t 75) (.t 76)) 74,
oo 78 (.pick (.t 74) (kb true) (.t 77)),
om 79 78,
oh 80 (.mv (.t 10)) 79,
oh 81 (.mv (.t 13)) 79,
oh 82 (.call 449 [.t 80, .t 81] 0 true) 79,
oh 83 (.un .not (.t 82)) 79,
oo 84 (.pick (.t 79) (kb true) (.t 83))]) (
ct 84 (
sq ([
oo 4 (.mv (kb false))]) (
.ret)) (.skip)))))) (
.region false [
om 51 9,
ob 52 .add (.t 51) (ki 1),
om 9 52])))))) (
sq ([
oo 4 (.mv (kb true))]) (
.ret))))))))), [.slot 4]⟩
def n442 : Notes := { anns := [⟨[0, 1, 5, 6, 7], [], [], [], [], true⟩, ⟨[8, 9], [], [], [], [], true⟩], frz := [], rgs := [] }
def c446 : CFn := ⟨sq ([
oo 0 (.mv (kb false))]) (
sq ([
oo 8 (.call 447 [(.k (.d (.s [97, 49, 32, 61, 32, 34, 120, 92, 34, 34, 32, 49, 50, 59, 32, 35, 32, 110, 111])))] 0 true),
om 7 8,
oo 9 (.ext (.t 7) 0),
oo 10 (.ext (.t 7) 1),
oo 11 (.ext (.t 7) 2),
om 1 9,
om 2 10,
om 3 11]) (
sq ([
oo 13 (.call 447 [(.k (.d (.s [97, 32, 63])))] 0 true),
om 12 13,
oo 14 (.ext (.t 12) 0),
oo 15 (.ext (.t 12) 1),
oo 16 (.ext (.t 12) 2),
om 4 14,
om 5 15,
om 6 16]) (
sq ([
om 17 3,
om 18 17,
og 19 (.mv (.t 1)) 18,
og 20 (.len 0 (.t 19)) 18,
og 21 (.bin .eql (.t 20) (ki 5)) 18,
oo 22 (.pick (.t 18) (.t 21) (kb false)),
om 23 22,
og 24 (.mv (.t 1)) 23,
og 25 (.ia 4 (.t 24) (ki 0)) 23,
og 26 (.ld true 4 (.t 25)) 23,
og 27 (.build [(.d (.i .i64 0)), (.d (.s [])), (.d (.i .i64 0)), (.d (.i .i64 0))] [(0, 1, (ki 1)), (1, 1, (.k (.d (.s [97, 49]))))]) 23,
og 28 (.eqa [.i, .s, .i, .i] false (.t 26) (.t 27)) 23,
oo 29 (.pick (.t 23) (.t 28) (kb false)),
om 30 29,
og 31 (.mv (.t 1)) 30,
og 32 (.ia 4 (.t 31) (ki 2)) 30,
og 33 (fa 1 32) 30,
og 34 (.ld false 1 (.t 33)) 30,
og 35 (.bin .eql (.t 34) (.k (.d (.s [120, 34])))) 30,
oo 36 (.pick (.t 30) (.t 35) (kb false)),
om 37 36,
og 38 (.mv (.t 1)) 37,
og 39 (.ia 4 (.t 38) (ki 3)) 37,
og 40 (fa 2 39) 37,
og 41 (.ld false 1 (.t 40)) 37,
og 42 (.bin .eql (.t 41) (ki 12)) 37,
oo 43 (.pick (.t 37) (.t 42) (kb false)),
om 44 43,
og 45 (.mv (.t 1)) 44,
og 46 (.ia 4 (.t 45) (ki 4)) 44,
og 47 (fa 1 46) 44,
og 48 (.ld false 1 (.t 47)) 44,
og 49 (.bin .eql (.t 48) (.k (.d (.s [59])))) 44,
oo 50 (.pick (.t 44) (.t 49) (kb false)),
om 51 50,
og 52 (.mv (.t 6)) 51,
og 53 (.un .not (.t 52)) 51,
oo 54 (.pick (.t 51) (.t 53) (kb false)),
om 55 54,
og 56 (.mv (.t 5)) 55,
og 57 (.bin .eql (.t 56) (ki 2)) 55,
oo 58 (.pick (.t 55) (.t 57) (kb false)),
om 0 58]) (
.ret)))), [.slot 0]⟩
def n446 : Notes := { anns := [], frz := [], rgs := [] }
def c447 : CFn := ⟨sq ([
oo 2 (.zero (.nil 4)),
oo 3 (.zero (.d (.i .i64 0))),
oo 4 (.zero (.d (.b false)))]) (
.seq (sq ([
om 7 0,
oo 8 (.len 1 (.t 7)),
ob 9 .gtr (.t 8) (ki 1500)]) (
ct 9 (
sq ([
oz (.st 1 (.t 2) (.k (.nil 4))) 0,
oz (.st 1 (.t 3) (ki 0)) 0,
oz (.st 1 (.t 4) (kb false)) 0]) (
.ret)) (.skip))) (
.seq (sq ([
om 10 0,
oo 11 (.call 450 [.t 10] 4 true)]) (
.block 0 (.range [(2, 0)] (.t 11) 10447 [2, 3, 4] 4))) (
sq ([
ol 27 false 1 2,
oz (.st 1 (.t 2) (.t 27)) 0,
oz (.st 1 (.t 3) (ki 0)) 0,
oz (.st 1 (.t 4) (kb true)) 0]) (
.ret)))), [.cell 2 false 1, .cell 3 false 1, .cell 4 false 1]⟩
def n447 : Notes := { anns := [], frz := [], rgs := [(10447, [2, 3, 4], 4, [(2, 0)])] }
def c448 : CFn := ⟨sq ([
oo 2 (.mv (.k (.nil 4))),
oo 3 (.mv (ki 0)),
oo 4 (.mv (kb false))]) (
.seq (sq ([
om 10 0,
oo 11 (.len 1 (.t 10)),
ob 12 .gtr (.t 11) (ki 1500)]) (
ct 12 (
sq ([
oo 2 (.mv (.k (.nil 4))),
oo 3 (.mv (ki 0)),
oo 4 (.mv (kb false))]) (
.ret)) (.skip))) (
sq ([
oo 5 (.mv (.k (.nil 4)))]) (
.seq (sq ([
oo 6 (.mv (ki 0))]) (
.block 0 (.loop ⟨[0, 5, 6], [5], [], [], [], true⟩ (.seq (sq ([
om 13 6,
om 14 0,
oo 15 (.len 1 (.t 14)),
ob 16 .lss (.t 13) (.t 15)]) (
ct 16 (
.skip) (.exit 0))) (
.block 1 (sq ([
om 17 0,
om 18 6,
oo 19 (.ixs (.t 17) (.t 18)),
om 7 19]) (
.seq (sq ([
om 20 7,
oo 21 (.bin .eql (.t 20) (.k (.d (.i .u8 32)))),
om 22 21,
oh 23 (.mv (.t 7)) 22,
oh 24 (.bin .eql (.t 23) (.k (.d (.i .u8 9)))) 22,
oo 25 (.pick (.t 22) (kb true) (.t 24)),
om 26 25,
oh 27 (.mv (.t 7)) 26,
oh 28 (.bin .eql (.t 27) (.k (.d (.i .u8 10)))) 26,
oo 29 (.pick (.t 26) (kb true) (.t 28))]) (
ct 29 (
sq ([
om 30 6,
ob 31 .add (.t 30) (ki 1),
om 6 31]) (
.exit 1)) (.skip))) (
.seq (sq ([
om 32 7,
oo 33 (.bin .eql (.t 32) (.k (.d (.i .u8 35))))]) (
ct 33 (
.seq (.block 2 (.loop ⟨[0, 5, 6], [], [], [], [], true⟩ (.seq (sq ([
om 34 6,
om 35 0,
oo 36 (.len 1 (.t 35)),
ob 37 .lss (.t 34) (.t 36),
om 38 37,
og 39 (.mv (.t 0)) 38,
og 40 (.mv (.t 6)) 38,
og 41 (.ixs (.t 39) (.t 40)) 38,
og 42 (.bin .neq (.t 41) (.k (.d (.i .u8 10)))) 38,
oo 43 (.pick (.t 38) (.t 42) (kb false))]) (
ct 43 (
.skip) (.exit 2))) (
.block 3 (.region false [
om 44 6,
ob 45 .add (.t 44) (ki 1),
om 6 45]))))) (
.exit 1)) (.skip))) (
sq ([
om 47 0,
om 48 6,
oo 49 (.sls (.t 47) (some (.t 48)) none),
oo 50 (.call 451 [.t 49] 0 true),
om 46 50,
oo 51 (.ext (.t 46) 0),
oo 52 (.ext (.t 46) 1),
oo 8 (.zero (.agg [(.d (.i .i64 0)), (.d (.s [])), (.d (.i .i64 0)), (.d (.i .i64 0))])),
oz (.st 4 (.t 8) (.t 51)) 0,
om 9 52]) (
.seq (sq ([
om 53 9,
ob 54 .eql (.t 53) (ki 0),
om 55 54,
oh 56 (.mv (.t 5)) 55,
oh 57 (.len 0 (.t 56)) 55,
oh 58 (.bin .geq (.t 57) (ki 400)) 55,
oo 59 (.pick (.t 55) (kb true) (.t 58))]) (
ct 59 (
sq ([
om 60 6,
oo 2 (.mv (.k (.nil 4))),
om 3 60,
oo 4 (.mv (kb false))]) (
.ret)) (.skip))) (
sq ([
om 61 6,
oo 62 (fa 3 8),
oz (.st 1 (.t 62) (.t 61)) 0]) (
.region false [
om 63 5,
ol 64 true 4 8,
oo 65 (.bsl 4 1 [(.i .i64 0), (.s []), (.i .i64 0), (.i .i64 0)] [(0, .t 64)]),
oo 66 (.app 4 40 (.t 63) (.t 65)),
om 67 6,
om 68 9,
ob 69 .add (.t 67) (.t 68),
om 5 66,
om 6 69])))))))))))) (
sq ([
om 70 5,
om 2 70,
oo 3 (.mv (ki 0)),
oo 4 (.mv (kb true))]) (
.ret))))), [.slot 2, .slot 3, .slot 4]⟩
def n448 : Notes := { anns := [⟨[0, 5, 6], [5], [], [], [], true⟩, ⟨[0, 5, 6], [], [], [], [], true⟩], frz := [], rgs := [] }
def c449 : CFn := ⟨sq ([
oo 4 (.mv (kb false))]) (
.seq (sq ([
om 6 0,
oo 7 (.len 0 (.t 6)),
om 8 1,
oo 9 (.len 0 (.t 8)),
ob 10 .neq (.t 7) (.t 9)]) (
ct 10 (
sq ([
oo 4 (.mv (kb false))]) (
.ret)) (.skip))) (
.seq (sq ([
oo 5 (.mv (ki 0))]) (
.block 0 (.loop ⟨[0, 1, 5], [], [], [], [], true⟩ (.seq (sq ([
om 11 5,
om 12 0,
oo 13 (.len 0 (.t 12)),
ob 14 .lss (.t 11) (.t 13)]) (
ct 14 (
.skip) (.exit 0))) (
.seq (.block 1 (.seq (.region true [
om 17 0,
om 18 5,
ow 19 (.ia 4 (.t 17) (.t 18)) 3,
ow 20 (.ld true 4 (.t 19)) 7,
om 21 1,
om 22 5,
ow 23 (.ia 4 (.t 21) (.t 22)) 48,
ow 24 (.ld true 4 (.t 23)) 112,
ow 25 (.eqa [.i, .s, .i, .i] true (.t 20) (.t 24)) 255]) (
ct 25 (
sq ([
oo 4 (.mv (kb false))]) (
.ret)) (.skip)))) (
.region false [
om 15 5,
ob 16 .add (.t 15) (ki 1),
om 5 16])))))) (
sq ([
oo 4 (.mv (kb true))]) (
.ret)))), [.slot 4]⟩
def n449 : Notes := { anns := [⟨[0, 1, 5], [], [], [], [], true⟩], frz := [], rgs := [] }
def c450 : CFn := ⟨sq ([
oo 1 (.box (.t 0)),
oo 2 (.mv (.k (.d .nf)))]) (
sq ([
oo 3 (.mkf 452 [] [.t 1] true),
om 2 3]) (
.ret)), [.slot 2]⟩
def n450 : Notes := { anns := [], frz := [0, 0, 1], rgs := [] }
def c451 : CFn := ⟨sq ([
oo 2 (.zero (.agg [(.d (.i .i64 0)), (.d (.s [])), (.d (.i .i64 0)), (.d (.i .i64 0))])),
oo 3 (.mv (ki 0))]) (
sq ([
oo 4 (.mv (ki 0))]) (
.seq (.block 0 (sq ([
om 9 0,
oo 10 (.ixs (.t 9) (ki 0)),
oo 11 (.call 455 [.t 10] 0 true),
om 8 11]) (
ct 8 (
.seq (.block 1 (.loop ⟨[0, 2, 4], [], [], [], [], true⟩ (.seq (sq ([
om 12 4,
om 13 0,
oo 14 (.len 1 (.t 13)),
ob 15 .lss (.t 12) (.t 14),
om 16 15,
og 17 (.mv (.t 0)) 16,
og 18 (.mv (.t 4)) 16,
og 19 (.ixs (.t 17) (.t 18)) 16,
og 20 (.call 455 [.t 19] 0 true) 16,
og 21 (.mv (.t 20)) 16,
oh 22 (.mv (.t 0)) 21,
oh 23 (.mv (.t 4)) 21,
oh 24 (.ixs (.t 22) (.t 23)) 21,
oh 25 (.call 456 [.t 24] 0 true) 21,
og 26 (.pick (.t 21) (kb true) (.t 25)) 16,
oo 27 (.pick (.t 16) (.t 26) (kb false))]) (
ct 27 (
.skip) (.exit 1))) (
.block 2 (.region false [
om 28 4,
ob 29 .add (.t 28) (ki 1),
om 4 29]))))) (
sq ([
om 30 0,
om 31 4,
oo 32 (.sls (.t 30) none (some (.t 31))),
oo 33 (.build [(.d (.i .i64 0)), (.d (.s [])), (.d (.i .i64 0)), (.d (.i .i64 0))] [(0, 1, (ki 1)), (1, 1, .t 32)]),
om 34 4,
oz (.st 4 (.t 2) (.t 33)) 0,
om 3 34]) (
.ret))) (sq ([
om 36 0,
oo 37 (.ixs (.t 36) (ki 0)),
oo 38 (.call 456 [.t 37] 0 true),
om 35 38]) (
ct 35 (
sq ([
oo 5 (.mv (ki 0))]) (
.seq (.block 3 (.loop ⟨[0, 2, 4, 5], [], [], [], [], true⟩ (.seq (sq ([
om 39 4,
om 40 0,
oo 41 (.len 1 (.t 40)),
ob 42 .lss (.t 39) (.t 41),
om 43 42,
og 44 (.mv (.t 0)) 43,
og 45 (.mv (.t 4)) 43,
og 46 (.ixs (.t 44) (.t 45)) 43,
og 47 (.call 456 [.t 46] 0 true) 43,
oo 48 (.pick (.t 43) (.t 47) (kb false))]) (
ct 48 (
.skip) (.exit 3))) (
.block 4 (.seq (sq ([
om 49 4,
ob 50 .lss (.t 49) (ki 18)]) (
ct 50 (
.region false [
om 51 5,
ob 52 .mul (.t 51) (ki 10),
om 53 0,
om 54 4,
oo 55 (.ixs (.t 53) (.t 54)),
oo 56 (.bin .sub (.t 55) (.k (.d (.i .u8 48)))),
oo 57 (.conv .i64 (.t 56)),
ob 58 .add (.t 52) (.t 57),
om 5 58]) (.skip))) (
.region false [
om 59 4,
ob 60 .add (.t 59) (ki 1),
om 4 60])))))) (
.seq (sq ([
om 61 4,
ob 62 .gtr (.t 61) (ki 18)]) (
ct 62 (
sq ([
oo 63 (.build [(.d (.i .i64 0)), (.d (.s [])), (.d (.i .i64 0)), (.d (.i .i64 0))] []),
oz (.st 4 (.t 2) (.t 63)) 0,
oo 3 (.mv (ki 0))]) (
.ret)) (.skip))) (
sq ([
om 64 5,
oo 65 (.build [(.d (.i .i64 0)), (.d (.s [])), (.d (.i .i64 0)), (.d (.i .i64 0))] [(0, 1, (ki 2)), (2, 1, .t 64)]),
om 66 4,
oz (.st 4 (.t 2) (.t 65)) 0,
om 3 66]) (
.ret))))) (sq ([
om 68 0,
oo 69 (.ixs (.t 68) (ki 0)),
oo 70 (.bin .eql (.t 69) (.k (.d (.i .u8 34)))),
om 67 70]) (
ct 67 (
sq ([
om 71 0,
oo 72 (.call 457 [.t 71] 0 true),
oo 73 (.ext (.t 72) 0),
oo 74 (.ext (.t 72) 1),
oz (.st 4 (.t 2) (.t 73)) 0,
om 3 74]) (
.ret)) (.skip)))))))) (
sq ([
oo 6 (.mv (.k (.d (.s [123, 125, 40, 41, 61, 46, 58, 59, 62]))))]) (
.seq (sq ([
oo 7 (.mv (ki 0))]) (
.block 5 (.loop ⟨[0, 2, 6, 7], [], [], [], [], true⟩ (.seq (sq ([
om 75 7,
om 76 6,
oo 77 (.len 1 (.t 76)),
ob 78 .lss (.t 75) (.t 77)]) (
ct 78 (
.skip) (.exit 5))) (
.seq (.block 6 (.seq (.region true [
om 81 6,
om 82 7,
ow 83 (.ixs (.t 81) (.t 82)) 3,
om 84 0,
ow 85 (.ixs (.t 84) (ki 0)) 8,
ow 86 (.bin .eql (.t 83) (.t 85)) 31]) (
ct 86 (
sq ([
om 87 0,
oo 88 (.sls (.t 87) none (some (ki 1))),
oo 89 (.build [(.d (.i .i64 0)), (.d (.s [])), (.d (.i .i64 0)), (.d (.i .i64 0))] [(0, 1, (ki 4)), (1, 1, .t 88)]),
oz (.st 4 (.t 2) (.t 89)) 0,
oo 3 (.mv (ki 1))]) (
.ret)) (.skip)))) (
.region false [
om 79 7,
ob 80 .add (.t 79) (ki 1),
om 7 80])))))) (
sq ([
oo 90 (.build [(.d (.i .i64 0)), (.d (.s [])), (.d (.i .i64 0)), (.d (.i .i64 0))] []),
oz (.st 4 (.t 2) (.t 90)) 0,
oo 3 (.mv (ki 0))]) (
.ret)))))), [.cell 2 true 4, .slot 3]⟩
def n451 : Notes := { anns := [⟨[0, 2, 4], [], [], [], [], true⟩, ⟨[0, 2, 4, 5], [], [], [], [], true⟩, ⟨[0, 2, 6, 7], [], [], [], [], true⟩], frz := [], rgs := [] }
def c452 : CFn := ⟨sq ([
ol 7 false 1 1,
oo 8 (.call 453 [.t 7] 0 true),
om 3 8]) (
.block 0 (.loop ⟨[0, 1, 3], [], [], [], [], true⟩ (.seq (sq ([
om 9 3,
ol 10 false 1 1,
oo 11 (.len 1 (.t 10)),
ob 12 .lss (.t 9) (.t 11)]) (
ct 12 (
.skip) (.exit 0))) (
.seq (.block 1 (sq ([
ol 20 false 1 1,
om 21 3,
oo 22 (.sls (.t 20) (some (.t 21)) none),
oo 23 (.call 454 [.t 22] 0 true),
om 19 23,
oo 24 (.ext (.t 19) 0),
oo 25 (.ext (.t 19) 1),
oo 26 (.ext (.t 19) 2),
oo 4 (.zero (.agg [(.d (.i .i64 0)), (.d (.s [])), (.d (.i .i64 0)), (.d (.i .i64 0))])),
oz (.st 4 (.t 4) (.t 24)) 0,
om 5 25,
om 6 26]) (
sq ([
om 27 3,
oo 28 (fa 3 4),
oz (.st 1 (.t 28) (.t 27)) 0]) (
.seq (sq ([
om 29 0,
ol 30 true 4 4,
om 31 6,
oo 32 (.callv (.t 29) [.t 30, .t 31] 4 true),
oo 33 (.un .not (.t 32)),
om 34 33,
oh 35 (.mv (.t 6)) 34,
oh 36 (.un .not (.t 35)) 34,
oo 37 (.pick (.t 34) (kb true) (.t 36))]) (
ct 37 (
.ret) (.skip))) (
.region false [
om 38 3,
om 39 5,
ob 40 .add (.t 38) (.t 39),
om 3 40]))))) (
.region false [
om 13 3,
ol 14 false 1 1,
om 15 3,
oo 16 (.sls (.t 14) (some (.t 15)) none),
oo 17 (.call 453 [.t 16] 0 true),
ob 18 .add (.t 13) (.t 17),
om 3 18]))))), []⟩
def n452 : Notes := { anns := [⟨[0, 1, 3], [], [], [], [], true⟩], frz := [], rgs := [] }
def c453 : CFn := ⟨sq ([
oo 2 (.mv (ki 0))]) (
.seq (.block 0 (.loop ⟨[0, 2], [], [], [], [], true⟩ (.seq (sq ([
om 3 2,
om 4 0,
oo 5 (.len 1 (.t 4)),
ob 6 .lss (.t 3) (.t 5)]) (
ct 6 (
.skip) (.exit 0))) (
.block 1 (sq ([
om 7 0,
om 8 2,
oo 9 (.ixs (.t 7) (.t 8))]) (
.block 2 (.seq (sq ([
oo 12 (.bin .eql (.t 9) (.k (.d (.i .u8 32)))),
om 11 12]) (
ct 11 (
.skip) (sq ([
oo 13 (.bin .eql (.t 9) (.k (.d (.i .u8 9)))),
om 11 13]) (
ct 11 (
.skip) (.region false [
oo 14 (.bin .eql (.t 9) (.k (.d (.i .u8 10)))),
om 11 14]))))) (
ct 11 (
.region false [
om 15 2,
ob 16 .add (.t 15) (ki 1),
om 2 16]) (sq ([
oo 18 (.bin .eql (.t 9) (.k (.d (.i .u8 35)))),
om 17 18]) (
ct 17 (
.region false [
om 19 2,
om 20 0,
om 21 2,
oo 22 (.sls (.t 20) (some (.t 21)) none),
oo 23 (.call 458 [.t 22, (.k (.d (.f 459 [] [])))] 4 true),
ob 24 .add (.t 19) (.t 23),
om 2 24]) (sq ([
om 10 2,
om 2 10]) (
.ret)))))))))))) (
sq ([
om 25 2,
om 2 25]) (
.ret))), [.slot 2]⟩
def n453 : Notes := { anns := [⟨[0, 2], [], [], [], [], true⟩], frz := [], rgs := [] }
def c454 : CFn := ⟨sq ([
oo 2 (.zero (.agg [(.d (.i .i64 0)), (.d (.s [])), (.d (.i .i64 0)), (.d (.i .i64 0))])),
oo 3 (.mv (ki 0)),
oo 4 (.mv (kb false))]) (
.seq (sq ([
om 11 0,
oo 12 (.ixs (.t 11) (ki 0)),
om 5 12]) (
.block 0 (sq ([
om 14 5,
oo 15 (.call 460 [.t 14] 0 true),
om 13 15]) (
ct 13 (
sq ([
om 16 0,
oo 17 (.call 458 [.t 16, (.k (.d (.f 461 [] [])))] 4 true),
om 3 17]) (
sq ([
om 18 0,
om 19 3,
oo 20 (.sls (.t 18) none (some (.t 19))),
oo 21 (.build [(.d (.i .i64 0)), (.d (.s [])), (.d (.i .i64 0)), (.d (.i .i64 0))] [(0, 1, (ki 1)), (1, 1, .t 20)]),
om 22 3,
oz (.st 4 (.t 2) (.t 21)) 0,
om 3 22,
oo 4 (.mv (kb true))]) (
.ret))) (sq ([
om 24 5,
oo 25 (.call 462 [.t 24] 0 true),
om 23 25]) (
ct 23 (
.seq (sq ([
om 26 0,
oo 27 (.call 458 [.t 26, (.k (.d (.f 462 [] [])))] 4 true),
om 3 27]) (
sq ([
om 28 3,
ob 29 .gtr (.t 28) (ki 18)]) (
ct 29 (
sq ([
ol 30 true 4 2,
oz (.st 4 (.t 2) (.t 30)) 0,
oo 3 (.mv (ki 0)),
oo 4 (.mv (kb false))]) (
.ret)) (.skip)))) (
sq ([
om 32 0,
om 33 3,
oo 34 (.sls (.t 32) none (some (.t 33))),
oo 35 (.call 296 [.t 34, (ki 10), (ki 64)] 0 true),
om 31 35,
oo 36 (.ext (.t 31) 0),
oo 37 (.ext (.t 31) 1),
om 6 36,
om 7 37]) (
sq ([
om 38 6,
oo 39 (.build [(.d (.i .i64 0)), (.d (.s [])), (.d (.i .i64 0)), (.d (.i .i64 0))] [(0, 1, (ki 2)), (2, 1, .t 38)]),
om 40 3,
oz (.st 4 (.t 2) (.t 39)) 0,
om 3 40,
oo 4 (.mv (kb true))]) (
.ret)))) (sq ([
om 42 5,
oo 43 (.bin .eql (.t 42) (.k (.d (.i .u8 34)))),
om 41 43]) (
ct 41 (
sq ([
om 45 0,
oo 46 (.call 463 [.t 45] 0 true),
om 44 46,
oo 47 (.ext (.t 44) 0),
oo 48 (.ext (.t 44) 1),
oo 49 (.ext (.t 44) 2),
om 8 47,
om 9 48,
om 10 49]) (
sq ([
om 50 8,
oo 51 (.build [(.d (.i .i64 0)), (.d (.s [])), (.d (.i .i64 0)), (.d (.i .i64 0))] [(0, 1, (ki 3)), (1, 1, .t 50)]),
om 52 9,
om 53 10,
oz (.st 4 (.t 2) (.t 51)) 0,
om 3 52,
om 4 53]) (
.ret))) (sq ([
om 55 5,
oo 56 (.call 334 [(.k (.d (.s [123, 125, 40, 41, 61, 46, 58, 59, 62]))), (.t 55)] 0 true),
ob 57 .geq (.t 56) (ki 0),
om 54 57]) (
ct 54 (
sq ([
om 58 0,
oo 59 (.sls (.t 58) none (some (ki 1))),
oo 60 (.build [(.d (.i .i64 0)), (.d (.s [])), (.d (.i .i64 0)), (.d (.i .i64 0))] [(0, 1, (ki 4)), (1, 1, .t 59)]),
oz (.st 4 (.t 2) (.t 60)) 0,
oo 3 (.mv (ki 1)),
oo 4 (.mv (kb true))]) (
.ret)) (.skip))))))))))) (
sq ([
ol 61 true 4 2,
oz (.st 4 (.t 2) (.t 61)) 0,
oo 3 (.mv (ki 0)),
oo 4 (.mv (kb false))]) (
.ret))), [.cell 2 true 4, .slot 3, .slot 4]⟩
def n454 : Notes := { anns := [], frz := [], rgs := [] }
def c455 : CFn := ⟨sq ([
oo 2 (.mv (kb false))]) (
sq ([
om 3 0,
oo 4 (.bin .geq (.t 3) (.k (.d (.i .u8 97)))),
om 5 4,
og 6 (.mv (.t 0)) 5,
og 7 (.bin .leq (.t 6) (.k (.d (.i .u8 122)))) 5,
oo 8 (.pick (.t 5) (.t 7) (kb false)),
om 2 8]) (
.ret)), [.slot 2]⟩
def n455 : Notes := { anns := [], frz := [], rgs := [] }
def c456 : CFn := ⟨sq ([
oo 2 (.mv (kb false))]) (
sq ([
om 3 0,
oo 4 (.bin .geq (.t 3) (.k (.d (.i .u8 48)))),
om 5 4,
og 6 (.mv (.t 0)) 5,
og 7 (.bin .leq (.t 6) (.k (.d (.i .u8 57)))) 5,
oo 8 (.pick (.t 5) (.t 7) (kb false)),
om 2 8]) (
.ret)), [.slot 2]⟩
def n456 : Notes := { anns := [], frz := [], rgs := [] }
def c457 : CFn := ⟨sq ([
oo 2 (.zero (.agg [(.d (.i .i64 0)), (.d (.s [])), (.d (.i .i64 0)), (.d (.i .i64 0))])),
oo 3 (.mv (ki 0))]) (
sq ([
oo 4 (.mv (.k (.nil 1)))]) (
.seq (sq ([
oo 5 (.mv (ki 1))]) (
.block 0 (.loop ⟨[0, 2, 4, 5], [4], [], [], [], true⟩ (.seq (sq ([
om 7 5,
om 8 0,
oo 9 (.len 1 (.t 8)),
ob 10 .lss (.t 7) (.t 9)]) (
ct 10 (
.skip) (.exit 0))) (
.seq (.block 1 (sq ([
om 13 0,
om 14 5,
oo 15 (.ixs (.t 13) (.t 14)),
om 6 15]) (
.seq (.block 2 (sq ([
om 17 6,
oo 18 (.bin .eql (.t 17) (.k (.d (.i .u8 34)))),
om 16 18]) (
ct 16 (
sq ([
om 19 4,
oo 20 (.bts (.t 19)),
oo 21 (.build [(.d (.i .i64 0)), (.d (.s [])), (.d (.i .i64 0)), (.d (.i .i64 0))] [(0, 1, (ki 3)), (1, 1, .t 20)]),
om 22 5,
ob 23 .add (.t 22) (ki 1),
oz (.st 4 (.t 2) (.t 21)) 0,
om 3 23]) (
.ret)) (sq ([
om 25 6,
oo 26 (.bin .lss (.t 25) (.k (.d (.i .u8 32)))),
om 27 26,
oh 28 (.mv (.t 6)) 27,
oh 29 (.bin .gtr (.t 28) (.k (.d (.i .u8 126)))) 27,
oo 30 (.pick (.t 27) (kb true) (.t 29)),
om 24 30]) (
ct 24 (
sq ([
oo 31 (.build [(.d (.i .i64 0)), (.d (.s [])), (.d (.i .i64 0)), (.d (.i .i64 0))] []),
oz (.st 4 (.t 2) (.t 31)) 0,
oo 3 (.mv (ki 0))]) (
.ret)) (sq ([
om 33 6,
oo 34 (.bin .eql (.t 33) (.k (.d (.i .u8 92)))),
om 32 34]) (
ct 32 (
sq ([
om 35 5,
ob 36 .add (.t 35) (ki 1),
om 5 36]) (
.seq (sq ([
om 37 5,
om 38 0,
oo 39 (.len 1 (.t 38)),
ob 40 .geq (.t 37) (.t 39),
om 41 40,
oh 42 (.mv (.t 0)) 41,
oh 43 (.mv (.t 5)) 41,
oh 44 (.ixs (.t 42) (.t 43)) 41,
oh 45 (.bin .neq (.t 44) (.k (.d (.i .u8 34)))) 41,
oh 46 (.mv (.t 45)) 41,
og 47 (.mv (.t 0)) 46,
og 48 (.mv (.t 5)) 46,
og 49 (.ixs (.t 47) (.t 48)) 46,
og 50 (.bin .neq (.t 49) (.k (.d (.i .u8 92)))) 46,
oh 51 (.pick (.t 46) (.t 50) (kb false)) 41,
oo 52 (.pick (.t 41) (kb true) (.t 51))]) (
ct 52 (
sq ([
oo 53 (.build [(.d (.i .i64 0)), (.d (.s [])), (.d (.i .i64 0)), (.d (.i .i64 0))] []),
oz (.st 4 (.t 2) (.t 53)) 0,
oo 3 (.mv (ki 0))]) (
.ret)) (.skip))) (
.region false [
om 54 0,
om 55 5,
oo 56 (.ixs (.t 54) (.t 55)),
om 6 56]))) (.skip)))))))) (
.region false [
om 57 4,
om 58 6,
oo 59 (.bsl 1 1 [(.i .u8 0)] [(0, .t 58)]),
oo 60 (.app 1 1 (.t 57) (.t 59)),
om 4 60])))) (
.region false [
om 11 5,
ob 12 .add (.t 11) (ki 1),
om 5 12])))))) (
sq ([
oo 61 (.build [(.d (.i .i64 0)), (.d (.s [])), (.d (.i .i64 0)), (.d (.i .i64 0))] []),
oz (.st 4 (.t 2) (.t 61)) 0,
oo 3 (.mv (ki 0))]) (
.ret)))), [.cell 2 true 4, .slot 3]⟩
def n457 : Notes := { anns := [⟨[0, 2, 4, 5], [4], [], [], [], true⟩], frz := [], rgs := [] }
def c458 : CFn := ⟨sq ([
oo 4 (.mv (ki 0))]) (
.seq (.block 0 (.loop ⟨[0, 1, 4], [], [], [], [], true⟩ (.seq (sq ([
om 5 4,
om 6 0,
oo 7 (.len 1 (.t 6)),
ob 8 .lss (.t 5) (.t 7),
om 9 8,
og 10 (.mv (.t 1)) 9,
og 11 (.mv (.t 0)) 9,
og 12 (.mv (.t 4)) 9,
og 13 (.ixs (.t 11) (.t 12)) 9,
og 14 (.callv (.t 10) [.t 13] 4 true) 9,
oo 15 (.pick (.t 9) (.t 14) (kb false))]) (
ct 15 (
.skip) (.exit 0))) (
.block 1 (.region false [
om 16 4,
ob 17 .add (.t 16) (ki 1),
om 4 17]))))) (
sq ([
om 18 4,
om 4 18]) (
.ret))), [.slot 4]⟩
def n458 : Notes := { anns := [⟨[0, 1, 4], [], [], [], [], true⟩], frz := [], rgs := [] }
def c459 : CFn := ⟨sq ([
oo 2 (.mv (kb false))]) (
sq ([
om 3 0,
oo 4 (.bin .neq (.t 3) (.k (.d (.i .u8 10)))),
om 2 4]) (
.ret)), [.slot 2]⟩
def n459 : Notes := { anns := [], frz := [], rgs := [] }
def c460 : CFn := ⟨sq ([
oo 2 (.mv (kb false))]) (
sq ([
om 3 0,
oo 4 (.bin .geq (.t 3) (.k (.d (.i .u8 97)))),
om 5 4,
og 6 (.mv (.t 0)) 5,
og 7 (.bin .leq (.t 6) (.k (.d (.i .u8 122)))) 5,
oo 8 (.pick (.t 5) (.t 7) (kb false)),
om 2 8]) (
.ret)), [.slot 2]⟩
def n460 : Notes := { anns := [], frz := [], rgs := [] }
def c461 : CFn := ⟨sq ([
oo 2 (.mv (kb false))]) (
sq ([
om 3 0,
oo 4 (.call 460 [.t 3] 0 true),
om 5 4,
oh 6 (.mv (.t 0)) 5,
oh 7 (.call 462 [.t 6] 0 true) 5,
oo 8 (.pick (.t 5) (kb true) (.t 7)),
om 2 8]) (
.ret)), [.slot 2]⟩
def n461 : Notes := { anns := [], frz := [], rgs := [] }
def c462 : CFn := ⟨sq ([
oo 2 (.mv (kb false))]) (
sq ([
om 3 0,
oo 4 (.bin .geq (.t 3) (.k (.d (.i .u8 48)))),
om 5 4,
og 6 (.mv (.t 0)) 5,
og 7 (.bin .leq (.t 6) (.k (.d (.i .u8 57)))) 5,
oo 8 (.pick (.t 5) (.t 7) (kb false)),
om 2 8]) (
.ret)), [.slot 2]⟩
def n462 : Notes := { anns := [], frz := [], rgs := [] }
def a10447 : CCode := sq ([
oo 5 (.zero (.agg [(.d (.i .i64 0)), (.d (.s [])), (.d (.i .i64 0)), (.d (.i .i64 0))])),
oz (.st 4 (.t 5) (.t 12)) 0]) (
.region false [
om 6 13])
def b10447 : CCode := .block 1 (.seq (sq ([
om 14 6,
oo 15 (.un .not (.t 14)),
om 16 15,
oh 17 (.ld false 1 (.t 2)) 16,
oh 18 (.len 0 (.t 17)) 16,
oh 19 (.bin .geq (.t 18) (ki 400)) 16,
oo 20 (.pick (.t 16) (kb true) (.t 19))]) (
ct 20 (
.seq (.region true [
oo 21 (fa 3 5),
ow 22 (.ld false 1 (.t 21)) 1,
oz (.st 1 (.t 2) (.k (.nil 4))) 0,
oz (.st 1 (.t 3) (.t 22)) 7,
oz (.st 1 (.t 4) (kb false)) 15]) (
.ret)) (.skip))) (
.region false [
ol 23 false 1 2,
ol 24 true 4 5,
oo 25 (.bsl 4 1 [(.i .i64 0), (.s []), (.i .i64 0), (.i .i64 0)] [(0, .t 24)]),
oo 26 (.app 4 40 (.t 23) (.t 25)),
oz (.st 1 (.t 2) (.t 26)) 0]))
def n10447 : Notes := { anns := [], frz := [], rgs := [] }
end Ab
namespace Ab.Wd
open Go
def isL (c : UInt8) : Bool := decide (97 ≤ c.toNat) && decide (c.toNat ≤ 122)
def isG (c : UInt8) : Bool := decide (48 ≤ c.toNat) && decide (c.toNat ≤ 57)
def isW (c : UInt8) : Bool := isL c || isG c
def isN (c : UInt8) : Bool := decide (c.toNat ≠ 10)
def isB (c : UInt8) : Bool := decide (c.toNat = 32 ∨ c.toNat = 9 ∨ c.toNat = 10)
def spanF (p : UInt8 → Bool) : List UInt8 → Nat
 | [] => 0
 | c :: r => if p c then spanF p r + 1 else 0
def blankG : Bool → List UInt8 → Nat
 | _, [] => 0
 | false, c :: r => if isB c then blankG false r + 1 else if c.toNat = 35 then blankG true r + 1 else 0
 | true, c :: r => if isN c then blankG true r + 1 else blankG false r + 1
def marks : List UInt8 := [123, 125, 40, 41, 61, 46, 58, 59, 62]
abbrev GW := Int × List UInt8 × Int
def oneF : List UInt8 → Option (GW × Nat)
 | [] => none
 | c :: r =>
  if isL c then some ((1, (c :: r).take (spanF isW (c :: r)), 0), spanF isW (c :: r))
  else if isG c then (if 18 < spanF isG (c :: r) then none else match decOf ((c :: r).take (spanF isG (c :: r))) with
   | some m => some ((2, [], (m : Int)), spanF isG (c :: r))
   | none => none)
  else if c.toNat = 34 then match qGo 1 [] r with
   | some (t, n) => some ((3, t, 0), n)
   | none => none
  else if marks.contains c then some ((4, [c], 0), 1)
  else none
def badK : List UInt8 → Int
 | [] => 0
 | c :: _ => if isL c then 0 else if isG c then 0 else if c.toNat = 34 then 3 else 0
def oneV (s : List UInt8) : V := match oneF s with
 | some ((k, t, v), n) => .tup [.agg [.d (.i .i64 k), .d (.s t), .d (.i .i64 v), .d (.i .i64 0)], .d (.i .i64 n), .d (.b true)]
 | none => .tup [.agg [.d (.i .i64 (badK s)), .d (.s []), .d (.i .i64 0), .d (.i .i64 0)], .d (.i .i64 0), .d (.b false)]
abbrev AW := GW × Nat
def rowW (w : AW) : List D := [.i .i64 w.1.1, .s w.1.2.1, .i .i64 w.1.2.2, .i .i64 w.2]
def wordsG : Nat → Nat → Nat → List UInt8 → List AW × Option Nat
 | 0, _, _, _ => ([], none)
 | f + 1, at_, k, s =>
  match s.drop (blankG false s) with
  | [] => ([], none)
  | c :: r => match oneF (c :: r) with
   | none => ([], some (at_ + blankG false s))
   | some (w, n) => if 400 ≤ k then ([], some (at_ + blankG false s)) else
    ((w, at_ + blankG false s) :: (wordsG f (at_ + blankG false s + n) (k + 1) ((c :: r).drop n)).1, (wordsG f (at_ + blankG false s + n) (k + 1) ((c :: r).drop n)).2)
def ansW : List AW × Option Nat → V
 | (l, none) => .tup [.d (.l 4 (l.map rowW)), .d (.i .i64 0), .d (.b true)]
 | (_, some p) => .tup [.d (.l 4 []), .d (.i .i64 p), .d (.b false)]
def allF (s : List UInt8) : List AW × Option Nat := if 1500 < s.length then ([], some 0) else wordsG (s.length + 1) 0 0 s
theorem spanF_le (p : UInt8 → Bool) : ∀ s : List UInt8, spanF p s ≤ s.length
 | [] => Nat.le_refl _
 | c :: r => by
  have := spanF_le p r
  simp only [spanF, List.length_cons]
  split <;> omega
theorem blankG_le : ∀ (b : Bool) (s : List UInt8), blankG b s ≤ s.length
 | b, [] => by cases b <;> exact Nat.le_refl _
 | false, c :: r => by
  have h1 := blankG_le false r
  have h2 := blankG_le true r
  simp only [blankG, List.length_cons]
  split
  ·omega
  ·split <;> omega
 | true, c :: r => by
  have h1 := blankG_le false r
  have h2 := blankG_le true r
  simp only [blankG, List.length_cons]
  split <;> omega
theorem blankG_remark : ∀ s : List UInt8, blankG true s = spanF isN s + blankG false (s.drop (spanF isN s))
 | [] => rfl
 | c :: r => by
  have ih := blankG_remark r
  simp only [blankG, spanF]
  by_cases h : isN c = true
  ·rw [if_pos h, if_pos h, ih, List.drop_succ_cons]; omega
  ·have hc : c.toNat = 10 := by simpa [isN] using h
   have hb : isB c = true := by simp [isB, hc]
   rw [if_neg h, if_neg h, List.drop_zero]
   simp only [blankG]
   rw [if_pos hb]; omega
theorem blank_remark {c : UInt8} {r : List UInt8} (h : c.toNat = 35) : blankG false (c :: r) = spanF isN (c :: r) + blankG false ((c :: r).drop (spanF isN (c :: r))) := by
 have h1 : isB c = false := by simp [isB, h]
 have h2 : isN c = true := by simp [isN, h]
 simp only [blankG, spanF, h1, h2, h, if_true, if_false, Qm, List.drop_succ_cons]
 rw [blankG_remark r]; omega
theorem qGo_le : ∀ (s : List UInt8) (n : Nat) (acc t : List UInt8) (m : Nat), qGo n acc s = some (t, m) → n < m ∧ m ≤ n + s.length ∧ t.length ≤ acc.length + s.length
 | [], n, acc, t, m, h => by simp [qGo] at h
 | c :: r, n, acc, t, m, h => by
  unfold qGo at h
  simp only [List.length_cons] at h ⊢
  split at h
  ·simp only [Qa, Qj] at h
   obtain ⟨rfl, rfl⟩ := h
   omega
  ·split at h
   ·split at h
    ·cases h
    ·rename_i d r'
     split at h
     ·have := qGo_le r' _ _ _ _ h
      simp only [Qg, List.length_cons, List.length_nil] at this ⊢
      omega
     ·cases h
   ·split at h
    ·cases h
    ·have := qGo_le r _ _ _ _ h
     simp only [Qg, List.length_cons, List.length_nil] at this
     omega
theorem oneF_le {s : List UInt8} {w : GW} {n : Nat} (h : oneF s = some (w, n)) : 1 ≤ n ∧ n ≤ s.length := by
 cases s with
 | nil => cases h
 | cons c r =>
  simp only [oneF] at h
  split at h
  ·rename_i hc
   simp only [Qa, Qj] at h
   obtain ⟨_, rfl⟩ := h
   refine ⟨?_, spanF_le _ _⟩
   simp only [spanF, isW, hc, Bool.true_or, if_true]; omega
  ·split at h
   ·rename_i hc
    split at h
    ·cases h
    ·split at h
     ·simp only [Qa, Qj] at h
      obtain ⟨_, rfl⟩ := h
      refine ⟨?_, spanF_le _ _⟩
      simp only [spanF, hc, if_true]; omega
     ·cases h
   ·split at h
    ·split at h
     ·rename_i t m hq
      simp only [Qa, Qj] at h
      obtain ⟨_, rfl⟩ := h
      have := qGo_le r _ _ _ _ hq
      simp only [List.length_cons]; omega
     ·cases h
    ·split at h
     ·simp only [Qa, Qj] at h
      obtain ⟨_, rfl⟩ := h
      simp
     ·cases h
end Ab.Wd
namespace Ab.Wd
open Go
variable {E : Nat → Option Fn}
structure WE (E : Nat → Option Fn) : Prop where
 e296 : E 296 = some (.prim parseImpl)
 e334 : E 334 = some (.prim idxbImpl)
 e463 : E 463 = some (.prim quoteImpl)
 e447 : E 447 = some (.code c447)
 e448 : E 448 = some (.code c448)
 e449 : E 449 = some (.code c449)
 e450 : E 450 = some (.code c450)
 e451 : E 451 = some (.code c451)
 e452 : E 452 = some (.code c452)
 e453 : E 453 = some (.code c453)
 e454 : E 454 = some (.code c454)
 e455 : E 455 = some (.code c455)
 e456 : E 456 = some (.code c456)
 e457 : E 457 = some (.code c457)
 e458 : E 458 = some (.code c458)
 e459 : E 459 = some (.code c459)
 e460 : E 460 = some (.code c460)
 e461 : E 461 = some (.code c461)
 e462 : E 462 = some (.code c462)
 e10447 : E 10447 = some (.round [12, 13] [2, 3, 4] a10447 b10447)
abbrev uc (c : UInt8) : V := .d (.i .u8 c.toNat)
theorem isL_int (c : UInt8) : isL c = (decide ((97 : Int) ≤ (c.toNat : Int)) && decide ((c.toNat : Int) ≤ 122)) := by
 unfold isL; congr 1 <;> (apply decide_eq_decide.2; omega)
theorem isG_int (c : UInt8) : isG c = (decide ((48 : Int) ≤ (c.toNat : Int)) && decide ((c.toNat : Int) ≤ 57)) := by
 unfold isG; congr 1 <;> (apply decide_eq_decide.2; omega)
theorem letter_ok (w : WE E) (c : UInt8) : lcall E 460 [uc c] [] = some (.d (.b (isL c)), []) := by
 refine call_q w.e460 ?_
 rw [isL_int]
 by_cases h : (97 : Int) ≤ c.toNat
 ·simp only [evAll, Nat.reduceBEq, ↓reduceIte, Nat.reduceEqDiff, Nat.reduceAdd, Nat.reduceLeDiff, Nat.reduceSub, Nat.reduceLT, reduceCtorEq, Int.reduceEq, Int.reduceLT, Int.reduceLE, Int.reduceNeg, loopQ, Int.reduceToNat, Nat.reduceMul, List.range'_one, c460, eq_true h, Bool.true_and]
 ·simp only [evAll, Nat.reduceBEq, ↓reduceIte, Nat.reduceEqDiff, Nat.reduceAdd, Nat.reduceLeDiff, Nat.reduceSub, Nat.reduceLT, reduceCtorEq, Int.reduceEq, Int.reduceLT, Int.reduceLE, Int.reduceNeg, loopQ, Int.reduceToNat, Nat.reduceMul, List.range'_one, c460, h, Bool.false_and]
theorem digit_ok (w : WE E) (c : UInt8) : lcall E 462 [uc c] [] = some (.d (.b (isG c)), []) := by
 refine call_q w.e462 ?_
 rw [isG_int]
 by_cases h : (48 : Int) ≤ c.toNat
 ·simp only [evAll, Nat.reduceBEq, ↓reduceIte, Nat.reduceEqDiff, Nat.reduceAdd, Nat.reduceLeDiff, Nat.reduceSub, Nat.reduceLT, reduceCtorEq, Int.reduceEq, Int.reduceLT, Int.reduceLE, Int.reduceNeg, loopQ, Int.reduceToNat, Nat.reduceMul, List.range'_one, c462, eq_true h, Bool.true_and]
 ·simp only [evAll, Nat.reduceBEq, ↓reduceIte, Nat.reduceEqDiff, Nat.reduceAdd, Nat.reduceLeDiff, Nat.reduceSub, Nat.reduceLT, reduceCtorEq, Int.reduceEq, Int.reduceLT, Int.reduceLE, Int.reduceNeg, loopQ, Int.reduceToNat, Nat.reduceMul, List.range'_one, c462, h, Bool.false_and]
theorem rletter_ok (w : WE E) (c : UInt8) : lcall E 455 [uc c] [] = some (.d (.b (isL c)), []) := by
 refine call_q w.e455 ?_
 rw [isL_int]
 by_cases h : (97 : Int) ≤ c.toNat
 ·simp only [evAll, Nat.reduceBEq, ↓reduceIte, Nat.reduceEqDiff, Nat.reduceAdd, Nat.reduceLeDiff, Nat.reduceSub, Nat.reduceLT, reduceCtorEq, Int.reduceEq, Int.reduceLT, Int.reduceLE, Int.reduceNeg, loopQ, Int.reduceToNat, Nat.reduceMul, List.range'_one, c455, eq_true h, Bool.true_and]
 ·simp only [evAll, Nat.reduceBEq, ↓reduceIte, Nat.reduceEqDiff, Nat.reduceAdd, Nat.reduceLeDiff, Nat.reduceSub, Nat.reduceLT, reduceCtorEq, Int.reduceEq, Int.reduceLT, Int.reduceLE, Int.reduceNeg, loopQ, Int.reduceToNat, Nat.reduceMul, List.range'_one, c455, h, Bool.false_and]
theorem rdigit_ok (w : WE E) (c : UInt8) : lcall E 456 [uc c] [] = some (.d (.b (isG c)), []) := by
 refine call_q w.e456 ?_
 rw [isG_int]
 by_cases h : (48 : Int) ≤ c.toNat
 ·simp only [evAll, Nat.reduceBEq, ↓reduceIte, Nat.reduceEqDiff, Nat.reduceAdd, Nat.reduceLeDiff, Nat.reduceSub, Nat.reduceLT, reduceCtorEq, Int.reduceEq, Int.reduceLT, Int.reduceLE, Int.reduceNeg, loopQ, Int.reduceToNat, Nat.reduceMul, List.range'_one, c456, eq_true h, Bool.true_and]
 ·simp only [evAll, Nat.reduceBEq, ↓reduceIte, Nat.reduceEqDiff, Nat.reduceAdd, Nat.reduceLeDiff, Nat.reduceSub, Nat.reduceLT, reduceCtorEq, Int.reduceEq, Int.reduceLT, Int.reduceLE, Int.reduceNeg, loopQ, Int.reduceToNat, Nat.reduceMul, List.range'_one, c456, h, Bool.false_and]
theorem name_ok (w : WE E) (c : UInt8) : lcall E 461 [uc c] [] = some (.d (.b (isW c)), []) := by
 refine call_q w.e461 ?_
 have c1 := letter_ok w c
 have c2 := digit_ok w c
 unfold isW
 cases h : isL c with
 | true => rw [h] at c1; simp only [evAll, Nat.reduceBEq, ↓reduceIte, Nat.reduceEqDiff, Nat.reduceAdd, Nat.reduceLeDiff, Nat.reduceSub, Nat.reduceLT, reduceCtorEq, Int.reduceEq, Int.reduceLT, Int.reduceLE, Int.reduceNeg, loopQ, Int.reduceToNat, Nat.reduceMul, List.range'_one, c461, c1, Bool.true_or]
 | false => rw [h] at c1; simp only [evAll, Nat.reduceBEq, ↓reduceIte, Nat.reduceEqDiff, Nat.reduceAdd, Nat.reduceLeDiff, Nat.reduceSub, Nat.reduceLT, reduceCtorEq, Int.reduceEq, Int.reduceLT, Int.reduceLE, Int.reduceNeg, loopQ, Int.reduceToNat, Nat.reduceMul, List.range'_one, c461, c1, c2, Bool.false_or]
theorem notEnd_ok (w : WE E) (c : UInt8) : lcall E 459 [uc c] [] = some (.d (.b (isN c)), []) := by
 refine call_q w.e459 ?_
 by_cases h : (c.toNat : Int) = 10
 ·have : isN c = false := by simp [isN]; omega
  rw [this]
  simp only [evAll, Nat.reduceBEq, ↓reduceIte, Nat.reduceEqDiff, Nat.reduceAdd, Nat.reduceLeDiff, Nat.reduceSub, Nat.reduceLT, reduceCtorEq, Int.reduceEq, Int.reduceLT, Int.reduceLE, Int.reduceNeg, loopQ, Int.reduceToNat, Nat.reduceMul, List.range'_one, c459, eq_true h, not_true_eq_false, decide_false]
 ·have : isN c = true := by simp [isN]; omega
  rw [this]
  simp only [evAll, Nat.reduceBEq, ↓reduceIte, Nat.reduceEqDiff, Nat.reduceAdd, Nat.reduceLeDiff, Nat.reduceSub, Nat.reduceLT, reduceCtorEq, Int.reduceEq, Int.reduceLT, Int.reduceLE, Int.reduceNeg, loopQ, Int.reduceToNat, Nat.reduceMul, List.range'_one, c459, h, not_false_eq_true, decide_true]
def spanLoop : CCode := match c458.body with
 | .seq _ (.seq (.block _ (.loop _ c)) _) => c
 | _ => .skip
theorem span_loop (w : WE E) {kf : Nat} {p : UInt8 → Bool} (hp : ∀ c, lcall E kf [uc c] [] = some (.d (.b (p c)), [])) {s : List UInt8} (hs : s.length ≤ 100000) {Q : Ex → St → Prop} : ∀ (m i : Nat), i + m = s.length →
  (∀ tm hp, look tm 4 = .d (.i .i64 (i + spanF p (s.drop i) : Nat)) → Q (.exit 0) ⟨tm, hp⟩) →
  LX E spanLoop ⟨[0, 1, 4], [], [], [], [], true⟩ 0 ⟨[(0, .d (.s s)), (1, .d (.f kf [] [])), (4, .d (.i .i64 i))], []⟩ Q := by
 intro m
 induction m with
 | zero =>
  intro i hi hQ
  have hn : ¬ ((i : Int) < s.length) := by omega
  rw [List.drop_eq_nil_of_le (by omega)] at hQ
  refine lx_step ?_
  simp only [evAll, Nat.reduceBEq, ↓reduceIte, Nat.reduceEqDiff, Nat.reduceAdd, Nat.reduceLeDiff, Nat.reduceSub, Nat.reduceLT, reduceCtorEq, Int.reduceEq, Int.reduceLT, Int.reduceLE, Int.reduceNeg, loopQ, Int.reduceToNat, Nat.reduceMul, List.range'_one, spanLoop, c458, hn]
  exact hQ _ _ (by simp only [spanF, Nat.add_zero]; rfl)
 | succ m ih =>
  intro i hi hQ
  have hy : (i : Int) < s.length := by omega
  have la : i < s.length := by omega
  have h0 : (0 : Int) ≤ i := by omega
  have ga : s[i]? = some s[i] := Qd la
  have wr : IntKind.i64.wrap ((i : Int) + 1) = ((i + 1 : Nat) : Int) := by rw [i64w (by omega) (by omega)]; omega
  have c1 := hp s[i]
  rw [List.drop_eq_getElem_cons la] at hQ
  generalize s[i] = c at *
  refine lx_step ?_
  cases hc : p c with
  | false =>
   rw [hc] at c1
   simp only [spanF, hc, Qm, if_false, Nat.add_zero] at hQ
   simp only [evAll, Nat.reduceBEq, ↓reduceIte, Nat.reduceEqDiff, Nat.reduceAdd, Nat.reduceLeDiff, Nat.reduceSub, Nat.reduceLT, reduceCtorEq, Int.reduceEq, Int.reduceLT, Int.reduceLE, Int.reduceNeg, loopQ, Int.reduceToNat, Nat.reduceMul, List.range'_one, spanLoop, c458, eq_true hy, h0, ga, c1]
   exact hQ _ _ rfl
  | true =>
   rw [hc] at c1
   simp only [spanF, hc, if_true] at hQ
   simp only [evAll, Nat.reduceBEq, ↓reduceIte, Nat.reduceEqDiff, Nat.reduceAdd, Nat.reduceLeDiff, Nat.reduceSub, Nat.reduceLT, reduceCtorEq, Int.reduceEq, Int.reduceLT, Int.reduceLE, Int.reduceNeg, loopQ, Int.reduceToNat, Nat.reduceMul, List.range'_one, spanLoop, c458, eq_true hy, h0, ga, c1, wr]
   refine ⟨_, rfl, ih (i + 1) (by omega) (fun tm hp h => hQ tm hp ?_)⟩
   rw [h, show i + 1 + spanF p (s.drop (i + 1)) = i + (spanF p (s.drop (i + 1)) + 1) by omega]
theorem span_ok (w : WE E) {kf : Nat} {p : UInt8 → Bool} (hp : ∀ c, lcall E kf [uc c] [] = some (.d (.b (p c)), [])) {s : List UInt8} (hs : s.length ≤ 100000) : lcall E 458 [.d (.s s), .d (.f kf [] [])] [] = some (.d (.i .i64 (spanF p s : Nat)), []) := by
 refine call_q w.e458 ?_
 simp only [evAll, Nat.reduceBEq, ↓reduceIte, Nat.reduceEqDiff, Nat.reduceAdd, Nat.reduceLeDiff, Nat.reduceSub, Nat.reduceLT, reduceCtorEq, Int.reduceEq, Int.reduceLT, Int.reduceLE, Int.reduceNeg, loopQ, Int.reduceToNat, Nat.reduceMul, List.range'_one, c458]
 refine span_loop w hp hs s.length 0 (by omega) (fun tm hp h => ?_)
 rw [Nat.zero_add, List.drop_zero] at h
 simp only [evAll, Nat.reduceBEq, ↓reduceIte, Nat.reduceEqDiff, Nat.reduceAdd, Nat.reduceLeDiff, Nat.reduceSub, Nat.reduceLT, reduceCtorEq, Int.reduceEq, Int.reduceLT, Int.reduceLE, Int.reduceNeg, loopQ, Int.reduceToNat, Nat.reduceMul, List.range'_one, h]
def blankLoop : CCode := match c453.body with
 | .seq _ (.seq (.block _ (.loop _ c)) _) => c
 | _ => .skip
theorem blank_loop (w : WE E) {s : List UInt8} (hs : s.length ≤ 100000) {Q : Ex → St → Prop} (hr : ∀ tm, look tm 2 = .d (.i .i64 (blankG false s : Nat)) → Q .ret ⟨tm, []⟩) (hx : ∀ tm, look tm 2 = .d (.i .i64 (blankG false s : Nat)) → Q (.exit 0) ⟨tm, []⟩) : ∀ (m i : Nat), i ≤ s.length → s.length < i + m →
  blankG false s = i + blankG false (s.drop i) →
  LX E blankLoop ⟨[0, 2], [], [], [], [], true⟩ 0 ⟨[(0, .d (.s s)), (2, .d (.i .i64 i))], []⟩ Q := by
 intro m
 induction m with
 | zero => intro i hi h; omega
 | succ m ih =>
  intro i hi hm hb
  by_cases hlt : i < s.length
  ·have hy : (i : Int) < s.length := by omega
   have h0 : (0 : Int) ≤ i := by omega
   have ga : s[i]? = some s[i] := Qd hlt
   have wr : IntKind.i64.wrap ((i : Int) + 1) = ((i + 1 : Nat) : Int) := by rw [i64w (by omega) (by omega)]; omega
   have hd : s.drop i = s[i] :: s.drop (i + 1) := List.drop_eq_getElem_cons hlt
   generalize s[i] = c at *
   refine lx_step ?_
   by_cases b1 : (c.toNat : Int) = 32
   ·have hc : isB c = true := by simp [isB]; omega
    rw [hd] at hb; simp only [blankG, hc, if_true] at hb
    simp only [evAll, Nat.reduceBEq, ↓reduceIte, Nat.reduceEqDiff, Nat.reduceAdd, Nat.reduceLeDiff, Nat.reduceSub, Nat.reduceLT, reduceCtorEq, Int.reduceEq, Int.reduceLT, Int.reduceLE, Int.reduceNeg, loopQ, Int.reduceToNat, Nat.reduceMul, List.range'_one, blankLoop, c453, eq_true hy, h0, ga, eq_true b1, wr]
    exact ⟨_, rfl, ih (i + 1) (by omega) (by omega) (by omega)⟩
   by_cases b2 : (c.toNat : Int) = 9
   ·have hc : isB c = true := by simp [isB]; omega
    rw [hd] at hb; simp only [blankG, hc, if_true] at hb
    simp only [evAll, Nat.reduceBEq, ↓reduceIte, Nat.reduceEqDiff, Nat.reduceAdd, Nat.reduceLeDiff, Nat.reduceSub, Nat.reduceLT, reduceCtorEq, Int.reduceEq, Int.reduceLT, Int.reduceLE, Int.reduceNeg, loopQ, Int.reduceToNat, Nat.reduceMul, List.range'_one, blankLoop, c453, eq_true hy, h0, ga, b1, eq_true b2, wr]
    exact ⟨_, rfl, ih (i + 1) (by omega) (by omega) (by omega)⟩
   by_cases b3 : (c.toNat : Int) = 10
   ·have hc : isB c = true := by simp [isB]; omega
    rw [hd] at hb; simp only [blankG, hc, if_true] at hb
    simp only [evAll, Nat.reduceBEq, ↓reduceIte, Nat.reduceEqDiff, Nat.reduceAdd, Nat.reduceLeDiff, Nat.reduceSub, Nat.reduceLT, reduceCtorEq, Int.reduceEq, Int.reduceLT, Int.reduceLE, Int.reduceNeg, loopQ, Int.reduceToNat, Nat.reduceMul, List.range'_one, blankLoop, c453, eq_true hy, h0, ga, b1, b2, eq_true b3, wr]
    exact ⟨_, rfl, ih (i + 1) (by omega) (by omega) (by omega)⟩
   have hc : isB c = false := by simp [isB]; omega
   by_cases b4 : (c.toNat : Int) = 35
   ·have c1 := span_ok w (notEnd_ok w) (s := s.drop i) (by rw [List.length_drop]; omega)
    have hle := spanF_le isN (s.drop i)
    rw [List.length_drop] at hle
    have e1 := blank_remark (c := c) (r := s.drop (i + 1)) (by omega)
    rw [← hd] at e1
    rw [List.drop_drop] at e1
    have hpos : 1 ≤ spanF isN (s.drop i) := by
     rw [hd]; simp only [spanF]
     rw [if_pos (by simp [isN]; omega)]; omega
    have wr2 : IntKind.i64.wrap ((i : Int) + (spanF isN (s.drop i) : Nat)) = ((i + spanF isN (s.drop i) : Nat) : Int) := by rw [i64w (by omega) (by omega)]; omega
    have hle2 : (i : Int) ≤ (s.length : Nat) := by omega
    generalize spanF isN (s.drop i) = k at *
    have htk : s.take s.length = s := List.take_length
    simp only [evAll, Nat.reduceBEq, ↓reduceIte, Nat.reduceEqDiff, Nat.reduceAdd, Nat.reduceLeDiff, Nat.reduceSub, Nat.reduceLT, reduceCtorEq, Int.reduceEq, Int.reduceLT, Int.reduceLE, Int.reduceNeg, loopQ, Int.reduceToNat, Nat.reduceMul, List.range'_one, blankLoop, c453, eq_true hy, h0, ga, b1, b2, b3, eq_true b4, c1, wr2, eq_true hle2, Int.le_refl, and_self, and_true, true_and, Qk, htk]
    exact ⟨_, rfl, ih (i + k) (by omega) (by omega) (by omega)⟩
   ·have e0 : blankG false s = i := by
     rw [hb, hd]; simp only [blankG, hc, Qm, if_false]
     rw [if_neg (by omega)]; omega
    simp only [evAll, Nat.reduceBEq, ↓reduceIte, Nat.reduceEqDiff, Nat.reduceAdd, Nat.reduceLeDiff, Nat.reduceSub, Nat.reduceLT, reduceCtorEq, Int.reduceEq, Int.reduceLT, Int.reduceLE, Int.reduceNeg, loopQ, Int.reduceToNat, Nat.reduceMul, List.range'_one, blankLoop, c453, eq_true hy, h0, ga, b1, b2, b3, b4]
    refine hr _ ?_
    rw [e0]; rfl
  ·have hn : ¬ ((i : Int) < s.length) := by omega
   have e0 : blankG false s = i := by rw [hb, List.drop_eq_nil_of_le (by omega)]; simp [blankG]
   refine lx_step ?_
   simp only [evAll, Nat.reduceBEq, ↓reduceIte, Nat.reduceEqDiff, Nat.reduceAdd, Nat.reduceLeDiff, Nat.reduceSub, Nat.reduceLT, reduceCtorEq, Int.reduceEq, Int.reduceLT, Int.reduceLE, Int.reduceNeg, loopQ, Int.reduceToNat, Nat.reduceMul, List.range'_one, blankLoop, c453, hn]
   refine hx _ ?_
   rw [e0]; rfl
theorem blank_ok (w : WE E) {s : List UInt8} (hs : s.length ≤ 100000) : lcall E 453 [.d (.s s)] [] = some (.d (.i .i64 (blankG false s : Nat)), []) := by
 refine call_q w.e453 ?_
 simp only [evAll, Nat.reduceBEq, ↓reduceIte, Nat.reduceEqDiff, Nat.reduceAdd, Nat.reduceLeDiff, Nat.reduceSub, Nat.reduceLT, reduceCtorEq, Int.reduceEq, Int.reduceLT, Int.reduceLE, Int.reduceNeg, loopQ, Int.reduceToNat, Nat.reduceMul, List.range'_one, c453]
 refine blank_loop w hs (fun tm h => ?_) (fun tm h => ?_) (s.length + 1) 0 (by omega) (by omega) (by rw [List.drop_zero]; omega)
 ·simp only [evAll, Nat.reduceBEq, ↓reduceIte, Nat.reduceEqDiff, Nat.reduceAdd, Nat.reduceLeDiff, Nat.reduceSub, Nat.reduceLT, reduceCtorEq, Int.reduceEq, Int.reduceLT, Int.reduceLE, Int.reduceNeg, loopQ, Int.reduceToNat, Nat.reduceMul, List.range'_one, h]
 ·simp only [evAll, Nat.reduceBEq, ↓reduceIte, Nat.reduceEqDiff, Nat.reduceAdd, Nat.reduceLeDiff, Nat.reduceSub, Nat.reduceLT, reduceCtorEq, Int.reduceEq, Int.reduceLT, Int.reduceLE, Int.reduceNeg, loopQ, Int.reduceToNat, Nat.reduceMul, List.range'_one, h]
end Ab.Wd
namespace Ab.Wd
open Go
variable {E : Nat → Option Fn}
theorem decGo_digits : ∀ (s : List UInt8) (acc : Nat), (∀ c ∈ s, isG c = true) → ∃ m, decGo acc s = some m
 | [], acc, _ => ⟨acc, rfl⟩
 | c :: r, acc, h => by
  have hc := h c List.mem_cons_self
  simp only [isG, Qi, Qh] at hc
  simp only [decGo]
  rw [if_pos hc]
  exact decGo_digits r _ fun d hd => h d (List.mem_cons_of_mem _ hd)
theorem take_span (p : UInt8 → Bool) : ∀ s : List UInt8, ∀ c ∈ s.take (spanF p s), p c = true
 | [], c, h => by simp [spanF] at h
 | d :: r, c, h => by
  simp only [spanF] at h
  split at h
  ·rename_i hd
   rw [List.take_succ_cons] at h
   rcases List.mem_cons.1 h with rfl | h
   ·exact hd
   ·exact take_span p r c h
  ·simp at h
theorem dec_span {c : UInt8} {r : List UInt8} (hc : isG c = true) (h : spanF isG (c :: r) ≤ 18) : ∃ m : Nat, decOf ((c :: r).take (spanF isG (c :: r))) = some m := by
 have e : (c :: r).take (spanF isG (c :: r)) = c :: r.take (spanF isG r) := by simp only [spanF, hc, if_true, List.take_succ_cons]
 obtain ⟨m, hm⟩ := decGo_digits ((c :: r).take (spanF isG (c :: r))) 0 (take_span isG (c :: r))
 refine ⟨m, ?_⟩
 rw [e] at hm ⊢
 unfold decOf
 simp only
 rw [if_pos (by rw [← e, List.length_take]; omega)]
 exact hm
theorem parse_call (w : WE E) {x : List UInt8} {m : Nat} (h : decOf x = some m) : lcall E 296 [.d (.s x), .d (.i .i64 10), .d (.i .i64 64)] [] = some (.tup [.d (.i .i64 m), .bad], []) := by
 rw [lcall_prim w.e296]
 simp only [parseImpl, h, and_self, if_true]
theorem quote_call (w : WE E) {s : List UInt8} (h : s.length ≤ 100000) : lcall E 463 [.d (.s s)] [] = some (quoteV s, []) := by
 rw [lcall_prim w.e463]
 simp only [quoteImpl, h, if_true]
theorem marks_call (w : WE E) (c : UInt8) : lcall E 334 [.d (.s [123, 125, 40, 41, 61, 46, 58, 59, 62]), uc c] [] = some (.d (.i .i64 (idxGo c 0 marks)), []) := by
 rw [lcall_prim w.e334]
 have h1 : (0 : Int) ≤ c.toNat := by omega
 have h2 : (c.toNat : Int) ≤ 255 := by have := c.toBitVec.isLt; have e : c.toNat = c.toBitVec.toNat := rfl; omega
 have h3 : ((c.toNat : Int)).toNat.toUInt8 = c := by rw [Qk]; simp
 simp only [idxbImpl, h1, h2, and_self, true_and, if_true, h3]
 rfl
theorem idx_marks (c : UInt8) : (0 ≤ idxGo c 0 marks) ↔ marks.contains c = true := by
 have key : ∀ (l : List UInt8) (i : Nat), 0 ≤ idxGo c i l ↔ l.contains c = true := by
  intro l
  induction l with
  | nil => intro i; simp [idxGo]
  | cons b l ih =>
   intro i
   simp only [idxGo]
   by_cases h : b = c
   ·simp [h]
   ·rw [if_neg h, ih]
    have h' : ¬ c = b := fun e => h e.symm
    simp [h']
 exact key _ _
theorem one_ok (w : WE E) {c : UInt8} {r : List UInt8} (hs : (c :: r).length ≤ 100000) : lcall E 454 [.d (.s (c :: r))] [] = some (oneV (c :: r), []) := by
 refine call_q w.e454 ?_
 have h0 : (0 : Int) ≤ 0 := Int.le_refl 0
 have g0 : (c :: r)[(0 : Int).toNat]? = some c := rfl
 have g0' : (c :: r)[0]? = some c := rfl
 have l0 : (0 : Int) ≤ ((c :: r).length : Nat) := by omega
 have l1 : (1 : Int) ≤ ((c :: r).length : Nat) := by simp; omega
 have cl := letter_ok w c
 cases hL : isL c with
 | true =>
  rw [hL] at cl
  have c1 := span_ok w (name_ok w) (s := c :: r) hs
  have hle := spanF_le isW (c :: r)
  have e : oneV (c :: r) = .tup [.agg [.d (.i .i64 1), .d (.s ((c :: r).take (spanF isW (c :: r)))), .d (.i .i64 0), .d (.i .i64 0)], .d (.i .i64 (spanF isW (c :: r) : Nat)), .d (.b true)] := by
   simp only [oneV, oneF, hL, if_true]
  rw [e]
  generalize spanF isW (c :: r) = k at *
  have k0 : (0 : Int) ≤ (k : Nat) := by omega
  have k1 : (k : Int) ≤ ((c :: r).length : Nat) := by omega
  generalize hz : c :: r = z at *
  simp only [evAll, Nat.reduceBEq, ↓reduceIte, Nat.reduceEqDiff, Nat.reduceAdd, Nat.reduceLeDiff, Nat.reduceSub, Nat.reduceLT, reduceCtorEq, Int.reduceEq, Int.reduceLT, Int.reduceLE, Int.reduceNeg, loopQ, Int.reduceToNat, Nat.reduceMul, List.range'_one, c454, h0, g0, g0', cl, c1, k0, k1, Int.le_refl, and_self, and_true, true_and, Qk, List.drop_zero]
 | false =>
  rw [hL] at cl
  have cg := digit_ok w c
  cases hG : isG c with
  | true =>
   rw [hG] at cg
   have c1 := span_ok w (digit_ok w) (s := c :: r) hs
   have hle := spanF_le isG (c :: r)
   by_cases h18 : 18 < spanF isG (c :: r)
   ·have e : oneV (c :: r) = .tup [.agg [.d (.i .i64 0), .d (.s []), .d (.i .i64 0), .d (.i .i64 0)], .d (.i .i64 0), .d (.b false)] := by
     simp only [oneV, oneF, badK, hL, hG, h18, if_true, Qm, if_false]
    rw [e]
    generalize spanF isG (c :: r) = k at *
    have k0 : (18 : Int) < (k : Nat) := by omega
    generalize hz : c :: r = z at *
    simp only [evAll, Nat.reduceBEq, ↓reduceIte, Nat.reduceEqDiff, Nat.reduceAdd, Nat.reduceLeDiff, Nat.reduceSub, Nat.reduceLT, reduceCtorEq, Int.reduceEq, Int.reduceLT, Int.reduceLE, Int.reduceNeg, loopQ, Int.reduceToNat, Nat.reduceMul, List.range'_one, c454, h0, g0, g0', cl, cg, c1, eq_true k0]
   ·obtain ⟨m, hm⟩ := dec_span (r := r) hG (by omega)
    have c2 := parse_call w hm
    have vb : valIds 0 V.bad = [] := rfl
    have e : oneV (c :: r) = .tup [.agg [.d (.i .i64 2), .d (.s []), .d (.i .i64 m), .d (.i .i64 0)], .d (.i .i64 (spanF isG (c :: r) : Nat)), .d (.b true)] := by
     simp only [oneV, oneF, hL, hG, h18, hm, if_true, Qm, if_false]
    rw [e]
    generalize spanF isG (c :: r) = k at *
    have k18 : ¬ (18 : Int) < (k : Nat) := by omega
    have k0 : (0 : Int) ≤ (k : Nat) := by omega
    have k1 : (k : Int) ≤ ((c :: r).length : Nat) := by omega
    generalize hz : c :: r = z at *
    simp only [evAll, Nat.reduceBEq, ↓reduceIte, Nat.reduceEqDiff, Nat.reduceAdd, Nat.reduceLeDiff, Nat.reduceSub, Nat.reduceLT, reduceCtorEq, Int.reduceEq, Int.reduceLT, Int.reduceLE, Int.reduceNeg, loopQ, Int.reduceToNat, Nat.reduceMul, List.range'_one, c454, h0, g0, g0', cl, cg, c1, k18, c2, vb, k0, k1, Int.le_refl, and_self, and_true, true_and, Qk, List.drop_zero]
  | false =>
   rw [hG] at cg
   by_cases h34 : (c.toNat : Int) = 34
   ·have c1 := quote_call w (s := c :: r) hs
    have h34' : c.toNat = 34 := by omega
    cases hq : qGo 1 [] r with
    | none =>
     have e : oneV (c :: r) = .tup [.agg [.d (.i .i64 3), .d (.s []), .d (.i .i64 0), .d (.i .i64 0)], .d (.i .i64 0), .d (.b false)] := by
      simp only [oneV, oneF, badK, hL, hG, h34', hq, if_true, Qm, if_false]
     have e2 : quoteV (c :: r) = .tup [.d (.s []), .d (.i .i64 0), .d (.b false)] := by simp only [quoteV, List.drop_succ_cons, List.drop_zero, hq]
     rw [e]; rw [e2] at c1
     generalize hz : c :: r = z at *
     simp only [evAll, Nat.reduceBEq, ↓reduceIte, Nat.reduceEqDiff, Nat.reduceAdd, Nat.reduceLeDiff, Nat.reduceSub, Nat.reduceLT, reduceCtorEq, Int.reduceEq, Int.reduceLT, Int.reduceLE, Int.reduceNeg, loopQ, Int.reduceToNat, Nat.reduceMul, List.range'_one, c454, h0, g0, g0', cl, cg, eq_true h34, c1]
    | some p =>
     obtain ⟨t, n⟩ := p
     have e : oneV (c :: r) = .tup [.agg [.d (.i .i64 3), .d (.s t), .d (.i .i64 0), .d (.i .i64 0)], .d (.i .i64 n), .d (.b true)] := by
      simp only [oneV, oneF, badK, hL, hG, h34', hq, if_true, Qm, if_false]
     have e2 : quoteV (c :: r) = .tup [.d (.s t), .d (.i .i64 n), .d (.b true)] := by simp only [quoteV, List.drop_succ_cons, List.drop_zero, hq]
     rw [e]; rw [e2] at c1
     generalize hz : c :: r = z at *
     simp only [evAll, Nat.reduceBEq, ↓reduceIte, Nat.reduceEqDiff, Nat.reduceAdd, Nat.reduceLeDiff, Nat.reduceSub, Nat.reduceLT, reduceCtorEq, Int.reduceEq, Int.reduceLT, Int.reduceLE, Int.reduceNeg, loopQ, Int.reduceToNat, Nat.reduceMul, List.range'_one, c454, h0, g0, g0', cl, cg, eq_true h34, c1]
   ·have c1 := marks_call w c
    have h34' : ¬ c.toNat = 34 := by omega
    have hm := idx_marks c
    by_cases hi : 0 ≤ idxGo c 0 marks
    ·have e : oneV (c :: r) = .tup [.agg [.d (.i .i64 4), .d (.s [c]), .d (.i .i64 0), .d (.i .i64 0)], .d (.i .i64 1), .d (.b true)] := by
      simp only [oneV, oneF, badK, hL, hG, h34', hm.1 hi, if_true, Qm, if_false]
      rfl
     rw [e]
     have t1 : (c :: r).take (1 : Int).toNat = [c] := rfl
     have t1' : (c :: r).take 1 = [c] := rfl
     generalize idxGo c 0 marks = k at *
     generalize hz : c :: r = z at *
     simp only [evAll, Nat.reduceBEq, ↓reduceIte, Nat.reduceEqDiff, Nat.reduceAdd, Nat.reduceLeDiff, Nat.reduceSub, Nat.reduceLT, reduceCtorEq, Int.reduceEq, Int.reduceLT, Int.reduceLE, Int.reduceNeg, loopQ, Int.reduceToNat, Nat.reduceMul, List.range'_one, c454, h0, g0, g0', cl, cg, h34, c1, ge_iff_le, eq_true hi, l1, Int.le_refl, and_self, and_true, true_and, Qk, List.drop_zero, t1, t1', Int.reduceLE]
    ·have hc : marks.contains c = false := by
      cases h : marks.contains c with
      | false => rfl
      | true => exact absurd (hm.2 h) hi
     have e : oneV (c :: r) = .tup [.agg [.d (.i .i64 0), .d (.s []), .d (.i .i64 0), .d (.i .i64 0)], .d (.i .i64 0), .d (.b false)] := by
      simp only [oneV, oneF, badK, hL, hG, h34', hc, if_true, Qm, if_false]
     rw [e]
     generalize idxGo c 0 marks = k at *
     generalize hz : c :: r = z at *
     simp only [evAll, Nat.reduceBEq, ↓reduceIte, Nat.reduceEqDiff, Nat.reduceAdd, Nat.reduceLeDiff, Nat.reduceSub, Nat.reduceLT, reduceCtorEq, Int.reduceEq, Int.reduceLT, Int.reduceLE, Int.reduceNeg, loopQ, Int.reduceToNat, Nat.reduceMul, List.range'_one, c454, h0, g0, g0', cl, cg, h34, c1, ge_iff_le, hi]
end Ab.Wd
namespace Ab.Wd
open Go
variable {E : Nat → Option Fn}
theorem bytesR_row : ∀ l : List UInt8, bytesR (byteRow l) = some l
 | [] => rfl
 | c :: r => by
  show bytesR ([.i .u8 c.toNat] :: byteRow r) = _
  rw [bytesR, bytesR_row r]
  simp
theorem byteRow_snoc (l : List UInt8) (c : UInt8) : byteRow l ++ [[D.i .u8 c.toNat]] = byteRow (l ++ [c]) := by simp [byteRow]
def rqLoop : CCode := match c457.body with
 | .seq _ (.seq _ (.seq (.seq _ (.block _ (.loop _ c))) _)) => c
 | _ => .skip
def rqV (s : List UInt8) : V := match qGo 1 [] (s.drop 1) with
 | some (t, n) => .tup [.agg [.d (.i .i64 3), .d (.s t), .d (.i .i64 0), .d (.i .i64 0)], .d (.i .i64 n)]
 | none => .tup [.agg [.d (.i .i64 0), .d (.s []), .d (.i .i64 0), .d (.i .i64 0)], .d (.i .i64 0)]
abbrev wz : Option Obj := some (.box [.d (.i .i64 0), .d (.s []), .d (.i .i64 0), .d (.i .i64 0)])
abbrev wq (t : List UInt8) : Option Obj := some (.box [.d (.i .i64 3), .d (.s t), .d (.i .i64 0), .d (.i .i64 0)])
theorem rq_loop (w : WE E) {s : List UInt8} (hs : s.length ≤ 100000) {R : Option (List UInt8 × Nat)} {Q : Ex → St → Prop}
  (h1 : ∀ t n, R = some (t, n) → ∀ tm, look tm 2 = .ptr 0 0 → look tm 3 = .d (.i .i64 n) → Q .ret ⟨tm, [wq t, some (.tok 0 1)]⟩)
  (h2 : R = none → ∀ tm, look tm 2 = .ptr 0 0 → look tm 3 = .d (.i .i64 0) → Q .ret ⟨tm, [wz, some (.tok 0 1)]⟩)
  (h3 : R = none → ∀ tm, look tm 2 = .ptr 0 0 → Q (.exit 0) ⟨tm, [wz, some (.tok 0 1)]⟩) : ∀ (m i : Nat) (acc : List UInt8), i ≤ s.length + 1 → s.length < i + m → acc.length ≤ i → qGo i acc (s.drop i) = R →
  LX E rqLoop ⟨[0, 2, 4, 5], [4], [], [], [], true⟩ 2 ⟨[(0, .d (.s s)), (2, .ptr 0 0), (4, .own 1 0 1 (byteRow acc)), (5, .d (.i .i64 i))], [wz, some (.tok 0 1)]⟩ Q := by
 intro m
 induction m with
 | zero =>
  intro i acc hi hm ha hR
  have hn : ¬ ((i : Int) < s.length) := by omega
  have : R = none := by rw [← hR, List.drop_eq_nil_of_le (by omega)]; rfl
  refine lx_step ?_
  simp only [evAll, Nat.reduceBEq, ↓reduceIte, Nat.reduceEqDiff, Nat.reduceAdd, Nat.reduceLeDiff, Nat.reduceSub, Nat.reduceLT, reduceCtorEq, Int.reduceEq, Int.reduceLT, Int.reduceLE, Int.reduceNeg, loopQ, Int.reduceToNat, Nat.reduceMul, List.range'_one, rqLoop, c457, hn]
  exact h3 this _ rfl
 | succ m ih =>
  intro i acc hi hm ha hR
  by_cases hlt : i < s.length
  ·have hy : (i : Int) < s.length := by omega
   have h0 : (0 : Int) ≤ i := by omega
   have ga : s[i]? = some s[i] := Qd hlt
   have wr : IntKind.i64.wrap ((i : Int) + 1) = ((i + 1 : Nat) : Int) := by rw [i64w (by omega) (by omega)]; omega
   have hd : s.drop i = s[i] :: s.drop (i + 1) := List.drop_eq_getElem_cons hlt
   have hb := bytesR_row acc
   have hba : byteRow acc ++ [[D.i .u8 s[i].toNat]] = byteRow (acc ++ [s[i]]) := byteRow_snoc _ _
   have rm : roomy (acc.length + 1) 1 = true := by unfold roomy; exact Ql (by omega)
   rw [hd] at hR
   unfold qGo at hR
   generalize s[i] = c at *
   refine lx_step ?_
   by_cases k1 : (c.toNat : Int) = 34
   ·rw [if_pos (by omega)] at hR
    simp only [evAll, Nat.reduceBEq, ↓reduceIte, Nat.reduceEqDiff, Nat.reduceAdd, Nat.reduceLeDiff, Nat.reduceSub, Nat.reduceLT, reduceCtorEq, Int.reduceEq, Int.reduceLT, Int.reduceLE, Int.reduceNeg, loopQ, Int.reduceToNat, Nat.reduceMul, List.range'_one, rqLoop, c457, eq_true hy, h0, ga, eq_true k1, wr, hb]
    exact h1 _ _ hR.symm _ rfl rfl
   rw [if_neg (by omega)] at hR
   by_cases k2 : (c.toNat : Int) < 32
   ·have : R = none := by rw [← hR, if_neg (by omega), if_pos (by omega)]
    simp only [evAll, Nat.reduceBEq, ↓reduceIte, Nat.reduceEqDiff, Nat.reduceAdd, Nat.reduceLeDiff, Nat.reduceSub, Nat.reduceLT, reduceCtorEq, Int.reduceEq, Int.reduceLT, Int.reduceLE, Int.reduceNeg, loopQ, Int.reduceToNat, Nat.reduceMul, List.range'_one, rqLoop, c457, eq_true hy, h0, ga, k1, eq_true k2]
    exact h2 this _ rfl rfl
   by_cases k3 : (126 : Int) < c.toNat
   ·have : R = none := by rw [← hR, if_neg (by omega), if_pos (by omega)]
    simp only [evAll, Nat.reduceBEq, ↓reduceIte, Nat.reduceEqDiff, Nat.reduceAdd, Nat.reduceLeDiff, Nat.reduceSub, Nat.reduceLT, reduceCtorEq, Int.reduceEq, Int.reduceLT, Int.reduceLE, Int.reduceNeg, loopQ, Int.reduceToNat, Nat.reduceMul, List.range'_one, rqLoop, c457, eq_true hy, h0, ga, k1, k2, eq_true k3, gt_iff_lt]
    exact h2 this _ rfl rfl
   by_cases k4 : (c.toNat : Int) = 92
   ·rw [if_pos (by omega)] at hR
    by_cases hlt2 : i + 1 < s.length
    ·have hy2 : ¬ ((i + 1 : Nat) : Int) ≥ s.length := by omega
     have h02 : (0 : Int) ≤ (i + 1 : Nat) := by omega
     have ga2 : s[i + 1]? = some s[i + 1] := Qd hlt2
     have hd2 : s.drop (i + 1) = s[i + 1] :: s.drop (i + 2) := List.drop_eq_getElem_cons hlt2
     have wr2 : IntKind.i64.wrap (((i + 1 : Nat) : Int) + 1) = ((i + 2 : Nat) : Int) := by rw [i64w (by omega) (by omega)]; omega
     have hba2 : byteRow acc ++ [[D.i .u8 s[i + 1].toNat]] = byteRow (acc ++ [s[i + 1]]) := byteRow_snoc _ _
     rw [hd2] at hR
     generalize s[i + 1] = d at *
     simp only at hR
     by_cases j1 : (d.toNat : Int) = 34
     ·rw [if_pos (by omega)] at hR
      have ih' := ih (i + 2) (acc ++ [d]) (by omega) (by omega) (by simp; omega) hR
      simp only [evAll, Nat.reduceBEq, ↓reduceIte, Nat.reduceEqDiff, Nat.reduceAdd, Nat.reduceLeDiff, Nat.reduceSub, Nat.reduceLT, reduceCtorEq, Int.reduceEq, Int.reduceLT, Int.reduceLE, Int.reduceNeg, loopQ, Int.reduceToNat, Nat.reduceMul, List.range'_one, rqLoop, c457, eq_true hy, h0, ga, k1, k2, k3, eq_true k4, gt_iff_lt, wr, hy2, h02, ga2, eq_true j1, wr2, hba2, rm, byteRow_length, List.length_cons, List.length_nil, not_true_eq_false, decide_false]
      exact ⟨_, rfl, ih'⟩
     by_cases j2 : (d.toNat : Int) = 92
     ·rw [if_pos (by omega)] at hR
      have ih' := ih (i + 2) (acc ++ [d]) (by omega) (by omega) (by simp; omega) hR
      simp only [evAll, Nat.reduceBEq, ↓reduceIte, Nat.reduceEqDiff, Nat.reduceAdd, Nat.reduceLeDiff, Nat.reduceSub, Nat.reduceLT, reduceCtorEq, Int.reduceEq, Int.reduceLT, Int.reduceLE, Int.reduceNeg, loopQ, Int.reduceToNat, Nat.reduceMul, List.range'_one, rqLoop, c457, eq_true hy, h0, ga, k1, k2, k3, eq_true k4, gt_iff_lt, wr, hy2, h02, ga2, j1, eq_true j2, wr2, hba2, rm, byteRow_length, List.length_cons, List.length_nil, not_true_eq_false, decide_false, not_false_eq_true, decide_true]
      exact ⟨_, rfl, ih'⟩
     ·have : R = none := by rw [← hR, if_neg (by omega)]
      simp only [evAll, Nat.reduceBEq, ↓reduceIte, Nat.reduceEqDiff, Nat.reduceAdd, Nat.reduceLeDiff, Nat.reduceSub, Nat.reduceLT, reduceCtorEq, Int.reduceEq, Int.reduceLT, Int.reduceLE, Int.reduceNeg, loopQ, Int.reduceToNat, Nat.reduceMul, List.range'_one, rqLoop, c457, eq_true hy, h0, ga, k1, k2, k3, eq_true k4, gt_iff_lt, wr, hy2, h02, ga2, j1, j2, not_true_eq_false, decide_false, not_false_eq_true, decide_true]
      exact h2 this _ rfl rfl
    ·have hy2 : ((i + 1 : Nat) : Int) ≥ s.length := by omega
     have : R = none := by rw [← hR, List.drop_eq_nil_of_le (by omega)]
     simp only [evAll, Nat.reduceBEq, ↓reduceIte, Nat.reduceEqDiff, Nat.reduceAdd, Nat.reduceLeDiff, Nat.reduceSub, Nat.reduceLT, reduceCtorEq, Int.reduceEq, Int.reduceLT, Int.reduceLE, Int.reduceNeg, loopQ, Int.reduceToNat, Nat.reduceMul, List.range'_one, rqLoop, c457, eq_true hy, h0, ga, k1, k2, k3, eq_true k4, gt_iff_lt, wr, eq_true hy2]
     exact h2 this _ rfl rfl
   ·rw [if_neg (by omega), if_neg (by omega)] at hR
    have ih' := ih (i + 1) (acc ++ [c]) (by omega) (by omega) (by simp; omega) hR
    simp only [evAll, Nat.reduceBEq, ↓reduceIte, Nat.reduceEqDiff, Nat.reduceAdd, Nat.reduceLeDiff, Nat.reduceSub, Nat.reduceLT, reduceCtorEq, Int.reduceEq, Int.reduceLT, Int.reduceLE, Int.reduceNeg, loopQ, Int.reduceToNat, Nat.reduceMul, List.range'_one, rqLoop, c457, eq_true hy, h0, ga, k1, k2, k3, k4, gt_iff_lt, wr, hba, rm, byteRow_length, List.length_cons, List.length_nil]
    exact ⟨_, rfl, ih'⟩
  ·have hn : ¬ ((i : Int) < s.length) := by omega
   have : R = none := by rw [← hR, List.drop_eq_nil_of_le (by omega)]; rfl
   refine lx_step ?_
   simp only [evAll, Nat.reduceBEq, ↓reduceIte, Nat.reduceEqDiff, Nat.reduceAdd, Nat.reduceLeDiff, Nat.reduceSub, Nat.reduceLT, reduceCtorEq, Int.reduceEq, Int.reduceLT, Int.reduceLE, Int.reduceNeg, loopQ, Int.reduceToNat, Nat.reduceMul, List.range'_one, rqLoop, c457, hn]
   exact h3 this _ rfl
theorem rquote_ok (w : WE E) {s : List UInt8} (hs : s.length ≤ 100000) : lcall E 457 [.d (.s s)] [] = some (rqV s, []) := by
 refine call_q w.e457 ?_
 simp only [evAll, Nat.reduceBEq, ↓reduceIte, Nat.reduceEqDiff, Nat.reduceAdd, Nat.reduceLeDiff, Nat.reduceSub, Nat.reduceLT, reduceCtorEq, Int.reduceEq, Int.reduceLT, Int.reduceLE, Int.reduceNeg, loopQ, Int.reduceToNat, Nat.reduceMul, List.range'_one, c457]
 refine rq_loop w hs (R := qGo 1 [] (s.drop 1)) (fun t n h tm t2 t3 => ?_) (fun h tm t2 t3 => ?_) (fun h tm t2 => ?_) (s.length + 1) 1 [] (by omega) (by omega) (by simp) rfl
 ·have e : rqV s = .tup [.agg [.d (.i .i64 3), .d (.s t), .d (.i .i64 0), .d (.i .i64 0)], .d (.i .i64 n)] := by unfold rqV; rw [h]
  rw [e]
  simp only [evAll, Nat.reduceBEq, ↓reduceIte, Nat.reduceEqDiff, Nat.reduceAdd, Nat.reduceLeDiff, Nat.reduceSub, Nat.reduceLT, reduceCtorEq, Int.reduceEq, Int.reduceLT, Int.reduceLE, Int.reduceNeg, loopQ, Int.reduceToNat, Nat.reduceMul, List.range'_one, t2, t3]
 ·have e : rqV s = .tup [.agg [.d (.i .i64 0), .d (.s []), .d (.i .i64 0), .d (.i .i64 0)], .d (.i .i64 0)] := by unfold rqV; rw [h]
  rw [e]
  simp only [evAll, Nat.reduceBEq, ↓reduceIte, Nat.reduceEqDiff, Nat.reduceAdd, Nat.reduceLeDiff, Nat.reduceSub, Nat.reduceLT, reduceCtorEq, Int.reduceEq, Int.reduceLT, Int.reduceLE, Int.reduceNeg, loopQ, Int.reduceToNat, Nat.reduceMul, List.range'_one, t2, t3]
 ·have e : rqV s = .tup [.agg [.d (.i .i64 0), .d (.s []), .d (.i .i64 0), .d (.i .i64 0)], .d (.i .i64 0)] := by unfold rqV; rw [h]
  rw [e]
  simp only [evAll, Nat.reduceBEq, ↓reduceIte, Nat.reduceEqDiff, Nat.reduceAdd, Nat.reduceLeDiff, Nat.reduceSub, Nat.reduceLT, reduceCtorEq, Int.reduceEq, Int.reduceLT, Int.reduceLE, Int.reduceNeg, loopQ, Int.reduceToNat, Nat.reduceMul, List.range'_one, t2]
end Ab.Wd
namespace Ab.Wd
open Go
variable {E : Nat → Option Fn}
def roLoop1 : CCode := match c451.body with
 | .seq _ (.seq _ (.seq (.block _ (.seq _ (.cond _ (.seq (.block _ (.loop _ c)) _) _))) _)) => c
 | _ => .skip
def roLoop2 : CCode := match c451.body with
 | .seq _ (.seq _ (.seq (.block _ (.seq _ (.cond _ _ (.seq _ (.cond _ (.seq _ (.seq (.block _ (.loop _ c)) _)) _))))) _)) => c
 | _ => .skip
def roLoop3 : CCode := match c451.body with
 | .seq _ (.seq _ (.seq _ (.seq _ (.seq (.seq _ (.block _ (.loop _ c))) _)))) => c
 | _ => .skip
def roV : Option (GW × Nat) → V
 | some ((k, t, v), n) => .tup [.agg [.d (.i .i64 k), .d (.s t), .d (.i .i64 v), .d (.i .i64 0)], .d (.i .i64 n)]
 | none => .tup [.agg [.d (.i .i64 0), .d (.s []), .d (.i .i64 0), .d (.i .i64 0)], .d (.i .i64 0)]
def roneV (s : List UInt8) : V := roV (oneF s)
theorem ro_loop1 (w : WE E) {s : List UInt8} (hs : s.length ≤ 100000) {Q : Ex → St → Prop} : ∀ (m i : Nat), i + m = s.length →
  (∀ tm, look tm 0 = .d (.s s) → look tm 2 = .ptr 0 0 → look tm 4 = .d (.i .i64 (i + spanF isW (s.drop i) : Nat)) → Q (.exit 1) ⟨tm, [wz]⟩) →
  LX E roLoop1 ⟨[0, 2, 4], [], [], [], [], true⟩ 1 ⟨[(0, .d (.s s)), (2, .ptr 0 0), (4, .d (.i .i64 i))], [wz]⟩ Q := by
 intro m
 induction m with
 | zero =>
  intro i hi hQ
  have hn : ¬ ((i : Int) < s.length) := by omega
  rw [List.drop_eq_nil_of_le (by omega)] at hQ
  refine lx_step ?_
  simp only [evAll, Nat.reduceBEq, ↓reduceIte, Nat.reduceEqDiff, Nat.reduceAdd, Nat.reduceLeDiff, Nat.reduceSub, Nat.reduceLT, reduceCtorEq, Int.reduceEq, Int.reduceLT, Int.reduceLE, Int.reduceNeg, loopQ, Int.reduceToNat, Nat.reduceMul, List.range'_one, roLoop1, c451, hn]
  exact hQ _ rfl rfl (by simp only [spanF, Nat.add_zero]; rfl)
 | succ m ih =>
  intro i hi hQ
  have hy : (i : Int) < s.length := by omega
  have la : i < s.length := by omega
  have h0 : (0 : Int) ≤ i := by omega
  have ga : s[i]? = some s[i] := Qd la
  have wr : IntKind.i64.wrap ((i : Int) + 1) = ((i + 1 : Nat) : Int) := by rw [i64w (by omega) (by omega)]; omega
  have c1 := rletter_ok w s[i]
  have c2 := rdigit_ok w s[i]
  rw [List.drop_eq_getElem_cons la] at hQ
  generalize s[i] = c at *
  have ihx : isW c = true → LX E roLoop1 ⟨[0, 2, 4], [], [], [], [], true⟩ 1 ⟨[(0, .d (.s s)), (2, .ptr 0 0), (4, .d (.i .i64 (i + 1 : Nat)))], [wz]⟩ Q := fun hc => ih (i + 1) (by omega) (fun tm k0 k2 h => hQ tm k0 k2 (by
   rw [h]; simp only [spanF, hc, if_true]
   rw [show i + 1 + spanF isW (s.drop (i + 1)) = i + (spanF isW (s.drop (i + 1)) + 1) by omega]))
  refine lx_step ?_
  cases hL : isL c with
  | true =>
   rw [hL] at c1
   simp only [evAll, Nat.reduceBEq, ↓reduceIte, Nat.reduceEqDiff, Nat.reduceAdd, Nat.reduceLeDiff, Nat.reduceSub, Nat.reduceLT, reduceCtorEq, Int.reduceEq, Int.reduceLT, Int.reduceLE, Int.reduceNeg, loopQ, Int.reduceToNat, Nat.reduceMul, List.range'_one, roLoop1, c451, eq_true hy, h0, ga, c1, wr]
   exact ⟨_, rfl, ihx (by simp [isW, hL])⟩
  | false =>
   rw [hL] at c1
   cases hG : isG c with
   | true =>
    rw [hG] at c2
    simp only [evAll, Nat.reduceBEq, ↓reduceIte, Nat.reduceEqDiff, Nat.reduceAdd, Nat.reduceLeDiff, Nat.reduceSub, Nat.reduceLT, reduceCtorEq, Int.reduceEq, Int.reduceLT, Int.reduceLE, Int.reduceNeg, loopQ, Int.reduceToNat, Nat.reduceMul, List.range'_one, roLoop1, c451, eq_true hy, h0, ga, c1, c2, wr]
    exact ⟨_, rfl, ihx (by simp [isW, hG])⟩
   | false =>
    rw [hG] at c2
    have hc : isW c = false := by simp [isW, hL, hG]
    simp only [spanF, hc, Qm, if_false, Nat.add_zero] at hQ
    simp only [evAll, Nat.reduceBEq, ↓reduceIte, Nat.reduceEqDiff, Nat.reduceAdd, Nat.reduceLeDiff, Nat.reduceSub, Nat.reduceLT, reduceCtorEq, Int.reduceEq, Int.reduceLT, Int.reduceLE, Int.reduceNeg, loopQ, Int.reduceToNat, Nat.reduceMul, List.range'_one, roLoop1, c451, eq_true hy, h0, ga, c1, c2]
    exact hQ _ rfl rfl rfl
theorem decGo_snoc : ∀ (l : List UInt8) (acc m : Nat) (c : UInt8), decGo acc l = some m → isG c = true → decGo acc (l ++ [c]) = some (m * 10 + (c.toNat - 48))
 | [], acc, m, c, h, hc => by
  simp only [decGo, Qa] at h
  subst h
  simp only [isG, Qi, Qh] at hc
  simp only [List.nil_append, decGo]
  rw [if_pos hc]
 | d :: r, acc, m, c, h, hc => by
  simp only [decGo] at h
  simp only [List.cons_append, decGo]
  split at h
  ·rename_i hd
   rw [if_pos hd]
   exact decGo_snoc r _ m c h hc
  ·cases h
theorem ro_loop2 (w : WE E) {s : List UInt8} (hs : s.length ≤ 100000) {Q : Ex → St → Prop} (hQ : ∀ tm (m : Nat), look tm 0 = .d (.s s) → look tm 2 = .ptr 0 0 → look tm 4 = .d (.i .i64 (spanF isG s : Nat)) → look tm 5 = .d (.i .i64 m) → (spanF isG s ≤ 18 → decGo 0 (s.take (spanF isG s)) = some m) → Q (.exit 3) ⟨tm, [wz]⟩) :
  ∀ (m i v : Nat), i + m = s.length → v < 10 ^ 18 → (i ≤ 18 → decGo 0 (s.take i) = some v ∧ v < 10 ^ i) → spanF isG s = i + spanF isG (s.drop i) →
  LX E roLoop2 ⟨[0, 2, 4, 5], [], [], [], [], true⟩ 1 ⟨[(0, .d (.s s)), (2, .ptr 0 0), (4, .d (.i .i64 i)), (5, .d (.i .i64 v))], [wz]⟩ Q := by
 intro m
 induction m with
 | zero =>
  intro i v hi hv hd hsp
  have hn : ¬ ((i : Int) < s.length) := by omega
  rw [List.drop_eq_nil_of_le (by omega)] at hsp
  have e : spanF isG s = i := by rw [hsp]; simp [spanF]
  refine lx_step ?_
  simp only [evAll, Nat.reduceBEq, ↓reduceIte, Nat.reduceEqDiff, Nat.reduceAdd, Nat.reduceLeDiff, Nat.reduceSub, Nat.reduceLT, reduceCtorEq, Int.reduceEq, Int.reduceLT, Int.reduceLE, Int.reduceNeg, loopQ, Int.reduceToNat, Nat.reduceMul, List.range'_one, roLoop2, c451, hn]
  exact hQ _ v rfl rfl (by rw [e]; rfl) rfl (fun h => by rw [e] at h ⊢; exact (hd h).1)
 | succ m ih =>
  intro i v hi hv hd hsp
  have hy : (i : Int) < s.length := by omega
  have la : i < s.length := by omega
  have h0 : (0 : Int) ≤ i := by omega
  have ga : s[i]? = some s[i] := Qd la
  have wr : IntKind.i64.wrap ((i : Int) + 1) = ((i + 1 : Nat) : Int) := by rw [i64w (by omega) (by omega)]; omega
  have c2 := rdigit_ok w s[i]
  have htk : s.take (i + 1) = s.take i ++ [s[i]] := by rw [List.take_add_one, ga]; rfl
  rw [List.drop_eq_getElem_cons la] at hsp
  generalize s[i] = c at *
  refine lx_step ?_
  cases hG : isG c with
  | false =>
   rw [hG] at c2
   have e : spanF isG s = i := by rw [hsp]; simp [spanF, hG]
   simp only [evAll, Nat.reduceBEq, ↓reduceIte, Nat.reduceEqDiff, Nat.reduceAdd, Nat.reduceLeDiff, Nat.reduceSub, Nat.reduceLT, reduceCtorEq, Int.reduceEq, Int.reduceLT, Int.reduceLE, Int.reduceNeg, loopQ, Int.reduceToNat, Nat.reduceMul, List.range'_one, roLoop2, c451, eq_true hy, h0, ga, c2]
   exact hQ _ v rfl rfl (by rw [e]; rfl) rfl (fun h => by rw [e] at h ⊢; exact (hd h).1)
  | true =>
   rw [hG] at c2
   have hsp' : spanF isG s = i + 1 + spanF isG (s.drop (i + 1)) := by rw [hsp]; simp only [spanF, hG, if_true]; omega
   have hc := hG
   simp only [isG, Qi, Qh] at hc
   by_cases h18 : i < 18
   ·have h18' : (i : Int) < 18 := by omega
    obtain ⟨d1, d2⟩ := hd (by omega)
    have hp : 10 ^ i ≤ 10 ^ 17 := Nat.pow_le_pow_right (by omega) (by omega)
    have hp' : (10 : Nat) ^ 17 = 100000000000000000 := by decide
    have hp2 : (10 : Nat) ^ 18 = 1000000000000000000 := by decide
    have hs' : 10 ^ (i + 1) = 10 ^ i * 10 := Nat.pow_succ ..
    have wM : IntKind.i64.wrap ((v : Int) * 10) = (v : Int) * 10 := i64w (by omega) (by omega)
    have wS : IntKind.u8.wrap ((c.toNat : Int) - 48) = ((c.toNat - 48 : Nat) : Int) := by
     have : ((c.toNat : Int) - 48) = ((c.toNat - 48 : Nat) : Int) := by omega
     rw [this]
     exact Go.IntWalk.u8_in _ (by omega)
    have wC : IntKind.i64.wrap ((c.toNat - 48 : Nat) : Int) = ((c.toNat - 48 : Nat) : Int) := i64w (by omega) (by omega)
    have wA : IntKind.i64.wrap ((v : Int) * 10 + ((c.toNat - 48 : Nat) : Int)) = ((v * 10 + (c.toNat - 48) : Nat) : Int) := by rw [i64w (by omega) (by omega)]; omega
    have ih' := ih (i + 1) (v * 10 + (c.toNat - 48)) (by omega) (by omega) (fun _ => ⟨by rw [htk]; exact decGo_snoc _ _ _ _ d1 hG, by omega⟩) hsp'
    simp only [evAll, Nat.reduceBEq, ↓reduceIte, Nat.reduceEqDiff, Nat.reduceAdd, Nat.reduceLeDiff, Nat.reduceSub, Nat.reduceLT, reduceCtorEq, Int.reduceEq, Int.reduceLT, Int.reduceLE, Int.reduceNeg, loopQ, Int.reduceToNat, Nat.reduceMul, List.range'_one, roLoop2, c451, eq_true hy, h0, ga, c2, eq_true h18', wM, wS, wC, wA, wr]
    exact ⟨_, rfl, ih'⟩
   ·have h18' : ¬ (i : Int) < 18 := by omega
    have ih' := ih (i + 1) v (by omega) hv (fun h => by omega) hsp'
    simp only [evAll, Nat.reduceBEq, ↓reduceIte, Nat.reduceEqDiff, Nat.reduceAdd, Nat.reduceLeDiff, Nat.reduceSub, Nat.reduceLT, reduceCtorEq, Int.reduceEq, Int.reduceLT, Int.reduceLE, Int.reduceNeg, loopQ, Int.reduceToNat, Nat.reduceMul, List.range'_one, roLoop2, c451, eq_true hy, h0, ga, c2, h18', wr]
    exact ⟨_, rfl, ih'⟩
theorem ro_loop3 (w : WE E) {c : UInt8} {s : List UInt8} (g0 : s[0]? = some c) {Q : Ex → St → Prop}
  (hy : marks.contains c = true → ∀ tm, look tm 2 = .ptr 0 0 → look tm 3 = .d (.i .i64 1) → Q .ret ⟨tm, [some (.box [.d (.i .i64 4), .d (.s [c]), .d (.i .i64 0), .d (.i .i64 0)])]⟩)
  (hn : marks.contains c = false → ∀ tm, look tm 2 = .ptr 0 0 → Q (.exit 5) ⟨tm, [wz]⟩) :
  ∀ (m i : Nat), i + m = 9 → marks.contains c = (marks.drop i).contains c →
  LX E roLoop3 ⟨[0, 2, 6, 7], [], [], [], [], true⟩ 1 ⟨[(0, .d (.s s)), (2, .ptr 0 0), (6, .d (.s marks)), (7, .d (.i .i64 i))], [wz]⟩ Q := by
 have hl : ((marks.length : Nat) : Int) = 9 := rfl
 have hl' : marks.length = 9 := rfl
 have l1 : (1 : Int) ≤ (s.length : Nat) := by
  cases s with
  | nil => simp at g0
  | cons d r => simp; omega
 have t1 : s.take 1 = [c] := by
  cases s with
  | nil => simp at g0
  | cons d r => simp at g0; subst g0; simp
 intro m
 induction m with
 | zero =>
  intro i hi hc
  have hlt : ¬ ((i : Int) < 9) := by omega
  have e : marks.contains c = false := by rw [hc, List.drop_eq_nil_of_le (by omega)]; rfl
  refine lx_step ?_
  simp only [evAll, Nat.reduceBEq, ↓reduceIte, Nat.reduceEqDiff, Nat.reduceAdd, Nat.reduceLeDiff, Nat.reduceSub, Nat.reduceLT, reduceCtorEq, Int.reduceEq, Int.reduceLT, Int.reduceLE, Int.reduceNeg, loopQ, Int.reduceToNat, Nat.reduceMul, List.range'_one, roLoop3, c451, hl, hlt]
  exact hn e _ rfl
 | succ m ih =>
  intro i hi hc
  have hlt : ((i : Int) < 9) := by omega
  have la : i < marks.length := by omega
  have h0 : (0 : Int) ≤ i := by omega
  have ga : marks[i]? = some marks[i] := Qd la
  have wr : IntKind.i64.wrap ((i : Int) + 1) = ((i + 1 : Nat) : Int) := by rw [i64w (by omega) (by omega)]; omega
  rw [List.drop_eq_getElem_cons la, List.contains_cons] at hc
  generalize marks[i] = d at *
  refine lx_step ?_
  by_cases k : (d.toNat : Int) = c.toNat
  ·have hdc : d = c := UInt8.toNat_inj.1 (by omega)
   subst hdc
   have e : marks.contains d = true := by rw [hc]; simp
   simp only [evAll, Nat.reduceBEq, ↓reduceIte, Nat.reduceEqDiff, Nat.reduceAdd, Nat.reduceLeDiff, Nat.reduceSub, Nat.reduceLT, reduceCtorEq, Int.reduceEq, Int.reduceLT, Int.reduceLE, Int.reduceNeg, loopQ, Int.reduceToNat, Nat.reduceMul, List.range'_one, roLoop3, c451, hl, eq_true hlt, h0, ga, g0, eq_true k, l1, t1, Int.le_refl, and_self, and_true, true_and, List.drop_zero]
   exact ⟨by rfl, hy e _ rfl rfl⟩
  ·have hdc : (c == d) = false := by
    cases h : c == d with
    | false => rfl
    | true => exact absurd (by rw [eq_of_beq h]) k
   rw [hdc, Bool.false_or] at hc
   have ih' := ih (i + 1) (by omega) hc
   simp only [evAll, Nat.reduceBEq, ↓reduceIte, Nat.reduceEqDiff, Nat.reduceAdd, Nat.reduceLeDiff, Nat.reduceSub, Nat.reduceLT, reduceCtorEq, Int.reduceEq, Int.reduceLT, Int.reduceLE, Int.reduceNeg, loopQ, Int.reduceToNat, Nat.reduceMul, List.range'_one, roLoop3, c451, hl, eq_true hlt, h0, ga, g0, k, wr]
   exact ⟨by rfl, _, rfl, ih'⟩
theorem rone_ok (w : WE E) {c : UInt8} {r : List UInt8} (hs : (c :: r).length ≤ 100000) : lcall E 451 [.d (.s (c :: r))] [] = some (roneV (c :: r), []) := by
 refine call_q w.e451 ?_
 have h0 : (0 : Int) ≤ 0 := Int.le_refl 0
 have g0 : (c :: r)[0]? = some c := rfl
 have g0' : (c :: r)[(0 : Int).toNat]? = some c := rfl
 have cl := rletter_ok w c
 cases hL : isL c with
 | true =>
  rw [hL] at cl
  have hle := spanF_le isW (c :: r)
  have e : roneV (c :: r) = .tup [.agg [.d (.i .i64 1), .d (.s ((c :: r).take (spanF isW (c :: r)))), .d (.i .i64 0), .d (.i .i64 0)], .d (.i .i64 (spanF isW (c :: r) : Nat))] := by
   simp only [roneV, oneF, hL, if_true, roV]
  rw [e]
  generalize hz : c :: r = z at *
  simp only [evAll, Nat.reduceBEq, ↓reduceIte, Nat.reduceEqDiff, Nat.reduceAdd, Nat.reduceLeDiff, Nat.reduceSub, Nat.reduceLT, reduceCtorEq, Int.reduceEq, Int.reduceLT, Int.reduceLE, Int.reduceNeg, loopQ, Int.reduceToNat, Nat.reduceMul, List.range'_one, c451, h0, g0, g0', cl]
  refine ro_loop1 w hs z.length 0 (by omega) (fun tm t0 t2 t4 => ?_)
  rw [Nat.zero_add, List.drop_zero] at t4
  generalize spanF isW z = k at *
  have k0 : (0 : Int) ≤ (k : Nat) := by omega
  have k1 : (k : Int) ≤ (z.length : Nat) := by omega
  simp only [evAll, Nat.reduceBEq, ↓reduceIte, Nat.reduceEqDiff, Nat.reduceAdd, Nat.reduceLeDiff, Nat.reduceSub, Nat.reduceLT, reduceCtorEq, Int.reduceEq, Int.reduceLT, Int.reduceLE, Int.reduceNeg, loopQ, Int.reduceToNat, Nat.reduceMul, List.range'_one, t0, t2, t4, k0, k1, Int.le_refl, and_self, and_true, true_and, Qk, List.drop_zero]
 | false =>
  rw [hL] at cl
  have cg := rdigit_ok w c
  cases hG : isG c with
  | true =>
   rw [hG] at cg
   have hle := spanF_le isG (c :: r)
   have hpos : 1 ≤ spanF isG (c :: r) := by simp only [spanF, hG, if_true]; omega
   have hV : roneV (c :: r) = roV (if 18 < spanF isG (c :: r) then none else match decOf ((c :: r).take (spanF isG (c :: r))) with
     | some m => some ((2, [], (m : Int)), spanF isG (c :: r))
     | none => none) := by
    simp only [roneV, oneF, hL, hG, if_true, Qm, if_false] <;> rfl
   have hdec : spanF isG (c :: r) ≤ 18 → decOf ((c :: r).take (spanF isG (c :: r))) = decGo 0 ((c :: r).take (spanF isG (c :: r))) := fun h => by
    have e : (c :: r).take (spanF isG (c :: r)) = c :: r.take (spanF isG r) := by simp only [spanF, hG, if_true, List.take_succ_cons]
    rw [e]
    unfold decOf
    simp only
    rw [if_pos (by rw [← e, List.length_take]; omega)]
   generalize hz : c :: r = z at *
   simp only [evAll, Nat.reduceBEq, ↓reduceIte, Nat.reduceEqDiff, Nat.reduceAdd, Nat.reduceLeDiff, Nat.reduceSub, Nat.reduceLT, reduceCtorEq, Int.reduceEq, Int.reduceLT, Int.reduceLE, Int.reduceNeg, loopQ, Int.reduceToNat, Nat.reduceMul, List.range'_one, c451, h0, g0, g0', cl, cg]
   refine ro_loop2 w hs (fun tm m t0 t2 t4 t5 hm => ?_) z.length 0 0 (by omega) (by decide) (fun _ => ⟨by rw [List.take_zero]; rfl, by decide⟩) (by rw [List.drop_zero]; omega)
   by_cases h18 : 18 < spanF isG z
   ·rw [hV, if_pos h18]; simp only [roV]
    generalize spanF isG z = k at *
    have k0 : (18 : Int) < (k : Nat) := by omega
    simp only [evAll, Nat.reduceBEq, ↓reduceIte, Nat.reduceEqDiff, Nat.reduceAdd, Nat.reduceLeDiff, Nat.reduceSub, Nat.reduceLT, reduceCtorEq, Int.reduceEq, Int.reduceLT, Int.reduceLE, Int.reduceNeg, loopQ, Int.reduceToNat, Nat.reduceMul, List.range'_one, t0, t2, t4, t5, gt_iff_lt, eq_true k0]
   ·rw [hV, if_neg h18, hdec (by omega), hm (by omega)]; simp only [roV]
    generalize spanF isG z = k at *
    have k0 : ¬ (18 : Int) < (k : Nat) := by omega
    simp only [evAll, Nat.reduceBEq, ↓reduceIte, Nat.reduceEqDiff, Nat.reduceAdd, Nat.reduceLeDiff, Nat.reduceSub, Nat.reduceLT, reduceCtorEq, Int.reduceEq, Int.reduceLT, Int.reduceLE, Int.reduceNeg, loopQ, Int.reduceToNat, Nat.reduceMul, List.range'_one, t0, t2, t4, t5, gt_iff_lt, k0]
  | false =>
   rw [hG] at cg
   by_cases h34 : (c.toNat : Int) = 34
   ·have c1 := rquote_ok w (s := c :: r) hs
    have h34' : c.toNat = 34 := by omega
    have e : roneV (c :: r) = rqV (c :: r) := by
     simp only [roneV, oneF, hL, hG, h34', if_true, Qm, if_false, rqV, List.drop_succ_cons, List.drop_zero]
     cases hq : qGo 1 [] r with
     | none => rfl
     | some p => obtain ⟨t, n⟩ := p; rfl
    rw [e]
    unfold rqV at c1 ⊢
    cases hq : qGo 1 [] ((c :: r).drop 1) with
    | none =>
     rw [hq] at c1
     generalize hz : c :: r = z at *
     simp only [evAll, Nat.reduceBEq, ↓reduceIte, Nat.reduceEqDiff, Nat.reduceAdd, Nat.reduceLeDiff, Nat.reduceSub, Nat.reduceLT, reduceCtorEq, Int.reduceEq, Int.reduceLT, Int.reduceLE, Int.reduceNeg, loopQ, Int.reduceToNat, Nat.reduceMul, List.range'_one, c451, h0, g0, g0', cl, cg, eq_true h34, c1]
    | some p =>
     obtain ⟨t, n⟩ := p
     rw [hq] at c1
     generalize hz : c :: r = z at *
     simp only [evAll, Nat.reduceBEq, ↓reduceIte, Nat.reduceEqDiff, Nat.reduceAdd, Nat.reduceLeDiff, Nat.reduceSub, Nat.reduceLT, reduceCtorEq, Int.reduceEq, Int.reduceLT, Int.reduceLE, Int.reduceNeg, loopQ, Int.reduceToNat, Nat.reduceMul, List.range'_one, c451, h0, g0, g0', cl, cg, eq_true h34, c1]
   ·have h34' : ¬ c.toNat = 34 := by omega
    have hV : roneV (c :: r) = roV (if marks.contains c then some ((4, [c], 0), 1) else none) := by
     simp only [roneV, oneF, hL, hG, h34', if_true, Qm, if_false]
    generalize hz : c :: r = z at *
    simp only [evAll, Nat.reduceBEq, ↓reduceIte, Nat.reduceEqDiff, Nat.reduceAdd, Nat.reduceLeDiff, Nat.reduceSub, Nat.reduceLT, reduceCtorEq, Int.reduceEq, Int.reduceLT, Int.reduceLE, Int.reduceNeg, loopQ, Int.reduceToNat, Nat.reduceMul, List.range'_one, c451, h0, g0, g0', cl, cg, h34]
    refine ro_loop3 w g0 (fun hy tm t2 t3 => ?_) (fun hn tm t2 => ?_) 9 0 rfl rfl
    ·rw [hV, hy]
     simp only [evAll, Nat.reduceBEq, ↓reduceIte, Nat.reduceEqDiff, Nat.reduceAdd, Nat.reduceLeDiff, Nat.reduceSub, Nat.reduceLT, reduceCtorEq, Int.reduceEq, Int.reduceLT, Int.reduceLE, Int.reduceNeg, loopQ, Int.reduceToNat, Nat.reduceMul, List.range'_one, t2, t3, roV]
    ·rw [hV, hn]
     simp only [evAll, Nat.reduceBEq, ↓reduceIte, Nat.reduceEqDiff, Nat.reduceAdd, Nat.reduceLeDiff, Nat.reduceSub, Nat.reduceLT, reduceCtorEq, Int.reduceEq, Int.reduceLT, Int.reduceLE, Int.reduceNeg, loopQ, Int.reduceToNat, Nat.reduceMul, List.range'_one, t2, roV]
end Ab.Wd
namespace Ab.Wd
open Go
variable {E : Nat → Option Fn}
def joinW (l : List AW) (x : List AW × Option Nat) : List AW × Option Nat := (l ++ x.1, x.2)
theorem wordsG_skip {f at_ k n : Nat} {s : List UInt8} (h : blankG false s = n + blankG false (s.drop n)) : wordsG f at_ k s = wordsG f (at_ + n) k (s.drop n) := by
 cases f with
 | zero => rfl
 | succ f =>
  have e1 : (s.drop n).drop (blankG false (s.drop n)) = s.drop (blankG false s) := by rw [List.drop_drop, h]
  have e2 : at_ + n + blankG false (s.drop n) = at_ + blankG false s := by rw [h]; omega
  simp only [wordsG, e1, e2]
theorem wordsG_nil (f at_ k : Nat) : wordsG f at_ k [] = ([], none) := by
 cases f with
 | zero => rfl
 | succ f => simp [wordsG, blankG]
theorem wordsG_word {f at_ k : Nat} {c : UInt8} {r : List UInt8} (h0 : blankG false (c :: r) = 0) : wordsG (f + 1) at_ k (c :: r) = match oneF (c :: r) with
   | none => ([], some at_)
   | some (w, n) => if 400 ≤ k then ([], some at_) else ((w, at_) :: (wordsG f (at_ + n) (k + 1) ((c :: r).drop n)).1, (wordsG f (at_ + n) (k + 1) ((c :: r).drop n)).2) := by
 simp only [wordsG, h0, List.drop_zero, Nat.add_zero] <;> rfl
def rwLoop : CCode := match c448.body with
 | .seq _ (.seq _ (.seq _ (.seq (.seq _ (.block _ (.loop _ c))) _))) => c
 | _ => .skip
def rmLoop : CCode := match rwLoop with
 | .seq _ (.block _ (.seq _ (.seq _ (.seq (.seq _ (.cond _ (.seq (.block _ (.loop _ c)) _) _)) _)))) => c
 | _ => .skip
abbrev tk4 : Option Obj := some (.tok 0 4)
theorem rm_loop {s : List UInt8} (hs : s.length ≤ 100000) (rows : List (List D)) {Q : Ex → St → Prop} : ∀ (m i : Nat), i + m = s.length →
  (∀ tm, look tm 0 = .d (.s s) → look tm 5 = .own 0 0 4 rows → look tm 6 = .d (.i .i64 (i + spanF isN (s.drop i) : Nat)) → Q (.exit 2) ⟨tm, [tk4]⟩) →
  LX E rmLoop ⟨[0, 5, 6], [], [], [], [], true⟩ 1 ⟨[(0, .d (.s s)), (5, .own 0 0 4 rows), (6, .d (.i .i64 i))], [tk4]⟩ Q := by
 intro m
 induction m with
 | zero =>
  intro i hi hQ
  have hn : ¬ ((i : Int) < s.length) := by omega
  rw [List.drop_eq_nil_of_le (by omega)] at hQ
  refine lx_step ?_
  simp only [evAll, Nat.reduceBEq, ↓reduceIte, Nat.reduceEqDiff, Nat.reduceAdd, Nat.reduceLeDiff, Nat.reduceSub, Nat.reduceLT, reduceCtorEq, Int.reduceEq, Int.reduceLT, Int.reduceLE, Int.reduceNeg, loopQ, Int.reduceToNat, Nat.reduceMul, List.range'_one, rmLoop, rwLoop, c448, hn]
  exact hQ _ rfl rfl (by simp only [spanF, Nat.add_zero]; rfl)
 | succ m ih =>
  intro i hi hQ
  have hy : (i : Int) < s.length := by omega
  have la : i < s.length := by omega
  have h0 : (0 : Int) ≤ i := by omega
  have ga : s[i]? = some s[i] := Qd la
  have wr : IntKind.i64.wrap ((i : Int) + 1) = ((i + 1 : Nat) : Int) := by rw [i64w (by omega) (by omega)]; omega
  rw [List.drop_eq_getElem_cons la] at hQ
  generalize s[i] = c at *
  refine lx_step ?_
  by_cases k : (c.toNat : Int) = 10
  ·have hc : isN c = false := by simp [isN]; omega
   simp only [spanF, hc, Qm, if_false, Nat.add_zero] at hQ
   simp only [evAll, Nat.reduceBEq, ↓reduceIte, Nat.reduceEqDiff, Nat.reduceAdd, Nat.reduceLeDiff, Nat.reduceSub, Nat.reduceLT, reduceCtorEq, Int.reduceEq, Int.reduceLT, Int.reduceLE, Int.reduceNeg, loopQ, Int.reduceToNat, Nat.reduceMul, List.range'_one, rmLoop, rwLoop, c448, eq_true hy, h0, ga, eq_true k, not_true_eq_false, decide_false]
   exact hQ _ rfl rfl rfl
  ·have hc : isN c = true := by simp [isN]; omega
   simp only [spanF, hc, if_true] at hQ
   simp only [evAll, Nat.reduceBEq, ↓reduceIte, Nat.reduceEqDiff, Nat.reduceAdd, Nat.reduceLeDiff, Nat.reduceSub, Nat.reduceLT, reduceCtorEq, Int.reduceEq, Int.reduceLT, Int.reduceLE, Int.reduceNeg, loopQ, Int.reduceToNat, Nat.reduceMul, List.range'_one, rmLoop, rwLoop, c448, eq_true hy, h0, ga, k, wr, not_false_eq_true, decide_true]
   refine ⟨_, rfl, ih (i + 1) (by omega) (fun tm k0 k5 h => hQ tm k0 k5 ?_)⟩
   rw [h, show i + 1 + spanF isN (s.drop (i + 1)) = i + (spanF isN (s.drop (i + 1)) + 1) by omega]
theorem rw_loop (w : WE E) {s : List UInt8} (hs : s.length ≤ 1500) {R : List AW × Option Nat} {Q : Ex → St → Prop}
  (hx : ∀ l, R = (l, none) → ∀ tm, look tm 5 = .own 0 0 4 (l.map rowW) → Q (.exit 0) ⟨tm, [tk4]⟩)
  (hr : ∀ l p, R = (l, some p) → ∀ tm hp, look tm 2 = .nil 4 → look tm 3 = .d (.i .i64 p) → look tm 4 = .d (.b false) → Q .ret ⟨tm, hp⟩) : ∀ (m i f : Nat) (l : List AW), i ≤ s.length → s.length < i + m → s.length < i + f → l.length ≤ i →
  joinW l (wordsG f i l.length (s.drop i)) = R →
  LX E rwLoop ⟨[0, 5, 6], [5], [], [], [], true⟩ 1 ⟨[(0, .d (.s s)), (5, .own 0 0 4 (l.map rowW)), (6, .d (.i .i64 i))], [tk4]⟩ Q := by
 intro m
 induction m with
 | zero => intro i f l hi h; omega
 | succ m ih =>
  intro i f l hi hm hf hl hR
  by_cases hlt : i < s.length
  ·have hy : (i : Int) < s.length := by omega
   have h0 : (0 : Int) ≤ i := by omega
   have ga : s[i]? = some s[i] := Qd hlt
   have wr : IntKind.i64.wrap ((i : Int) + 1) = ((i + 1 : Nat) : Int) := by rw [i64w (by omega) (by omega)]; omega
   have hd : s.drop i = s[i] :: s.drop (i + 1) := List.drop_eq_getElem_cons hlt
   have hln : (s.drop i).length = s.length - i := List.length_drop
   generalize s[i] = c at *
   refine lx_step ?_
   have stepB : isB c = true → LX E rwLoop ⟨[0, 5, 6], [5], [], [], [], true⟩ 1 ⟨[(0, .d (.s s)), (5, .own 0 0 4 (l.map rowW)), (6, .d (.i .i64 (i + 1 : Nat)))], [tk4]⟩ Q := fun hc => by
    refine ih (i + 1) f l (by omega) (by omega) (by omega) (by omega) ?_
    rw [← hR, hd, wordsG_skip (n := 1) (at_ := i) (s := c :: s.drop (i + 1)) (by rw [List.drop_succ_cons, List.drop_zero]; simp only [blankG, hc, if_true]; omega)]
    rfl
   by_cases b1 : (c.toNat : Int) = 32
   ·simp only [evAll, Nat.reduceBEq, ↓reduceIte, Nat.reduceEqDiff, Nat.reduceAdd, Nat.reduceLeDiff, Nat.reduceSub, Nat.reduceLT, reduceCtorEq, Int.reduceEq, Int.reduceLT, Int.reduceLE, Int.reduceNeg, loopQ, Int.reduceToNat, Nat.reduceMul, List.range'_one, rwLoop, c448, eq_true hy, h0, ga, eq_true b1, wr]
    exact ⟨_, rfl, stepB (by simp [isB]; omega)⟩
   by_cases b2 : (c.toNat : Int) = 9
   ·simp only [evAll, Nat.reduceBEq, ↓reduceIte, Nat.reduceEqDiff, Nat.reduceAdd, Nat.reduceLeDiff, Nat.reduceSub, Nat.reduceLT, reduceCtorEq, Int.reduceEq, Int.reduceLT, Int.reduceLE, Int.reduceNeg, loopQ, Int.reduceToNat, Nat.reduceMul, List.range'_one, rwLoop, c448, eq_true hy, h0, ga, b1, eq_true b2, wr]
    exact ⟨_, rfl, stepB (by simp [isB]; omega)⟩
   by_cases b3 : (c.toNat : Int) = 10
   ·simp only [evAll, Nat.reduceBEq, ↓reduceIte, Nat.reduceEqDiff, Nat.reduceAdd, Nat.reduceLeDiff, Nat.reduceSub, Nat.reduceLT, reduceCtorEq, Int.reduceEq, Int.reduceLT, Int.reduceLE, Int.reduceNeg, loopQ, Int.reduceToNat, Nat.reduceMul, List.range'_one, rwLoop, c448, eq_true hy, h0, ga, b1, b2, eq_true b3, wr]
    exact ⟨_, rfl, stepB (by simp [isB]; omega)⟩
   have hB : isB c = false := by simp [isB]; omega
   by_cases b4 : (c.toNat : Int) = 35
   ·have e1 := blank_remark (c := c) (r := s.drop (i + 1)) (by omega)
    rw [← hd] at e1
    have hle := spanF_le isN (s.drop i)
    have hpos : 1 ≤ spanF isN (s.drop i) := by
     rw [hd]; simp only [spanF]
     rw [if_pos (by simp [isN]; omega)]; omega
    rw [wordsG_skip e1, List.drop_drop] at hR
    simp only [evAll, Nat.reduceBEq, ↓reduceIte, Nat.reduceEqDiff, Nat.reduceAdd, Nat.reduceLeDiff, Nat.reduceSub, Nat.reduceLT, reduceCtorEq, Int.reduceEq, Int.reduceLT, Int.reduceLE, Int.reduceNeg, loopQ, Int.reduceToNat, Nat.reduceMul, List.range'_one, rwLoop, c448, eq_true hy, h0, ga, b1, b2, b3, eq_true b4]
    refine rm_loop (by omega) (l.map rowW) (s.length - i) i (by omega) (fun tm t0 t5 t6 => ?_)
    generalize spanF isN (s.drop i) = k at *
    simp only [evAll, Nat.reduceBEq, ↓reduceIte, Nat.reduceEqDiff, Nat.reduceAdd, Nat.reduceLeDiff, Nat.reduceSub, Nat.reduceLT, reduceCtorEq, Int.reduceEq, Int.reduceLT, Int.reduceLE, Int.reduceNeg, loopQ, Int.reduceToNat, Nat.reduceMul, List.range'_one, t0, t5, t6]
    exact ⟨_, rfl, ih (i + k) f l (by omega) (by omega) (by omega) (by omega) hR⟩
   ·have hb0 : blankG false (c :: s.drop (i + 1)) = 0 := by
     simp only [blankG, hB, Qm, if_false]
     rw [if_neg (by omega)]
    obtain ⟨f, rfl⟩ : ∃ f', f = f' + 1 := ⟨f - 1, by omega⟩
    have c1 := rone_ok w (c := c) (r := s.drop (i + 1)) (by rw [← hd]; omega)
    rw [hd, wordsG_word hb0] at hR
    rw [← hd] at hR c1
    have hle2 : (i : Int) ≤ (s.length : Nat) := by omega
    have htk : s.take s.length = s := List.take_length
    have hll : ((l.map rowW).length : Int) = (l.length : Nat) := by simp
    cases ho : oneF (s.drop i) with
    | none =>
     rw [ho] at hR
     have ec : roneV (s.drop i) = .tup [.agg [.d (.i .i64 0), .d (.s []), .d (.i .i64 0), .d (.i .i64 0)], .d (.i .i64 0)] := by simp only [roneV, ho, roV]
     rw [ec] at c1
     simp only [evAll, Nat.reduceBEq, ↓reduceIte, Nat.reduceEqDiff, Nat.reduceAdd, Nat.reduceLeDiff, Nat.reduceSub, Nat.reduceLT, reduceCtorEq, Int.reduceEq, Int.reduceLT, Int.reduceLE, Int.reduceNeg, loopQ, Int.reduceToNat, Nat.reduceMul, List.range'_one, rwLoop, c448, eq_true hy, h0, ga, b1, b2, b3, b4, c1, eq_true hle2, Int.le_refl, and_self, and_true, true_and, Qk, htk]
     exact hr _ _ hR.symm _ _ rfl rfl rfl
    | some p =>
     obtain ⟨⟨k, t, v⟩, n⟩ := p
     rw [ho] at hR
     have hn := oneF_le ho
     rw [hln] at hn
     have ec : roneV (s.drop i) = .tup [.agg [.d (.i .i64 k), .d (.s t), .d (.i .i64 v), .d (.i .i64 0)], .d (.i .i64 n)] := by simp only [roneV, ho, roV]
     rw [ec] at c1
     have n0 : ¬ (n : Int) = 0 := by omega
     by_cases h4 : 400 ≤ l.length
     ·simp only [h4, if_true] at hR
      have h4' : ((l.length : Nat) : Int) ≥ 400 := by omega
      simp only [evAll, Nat.reduceBEq, ↓reduceIte, Nat.reduceEqDiff, Nat.reduceAdd, Nat.reduceLeDiff, Nat.reduceSub, Nat.reduceLT, reduceCtorEq, Int.reduceEq, Int.reduceLT, Int.reduceLE, Int.reduceNeg, loopQ, Int.reduceToNat, Nat.reduceMul, List.range'_one, rwLoop, c448, eq_true hy, h0, ga, b1, b2, b3, b4, c1, eq_true hle2, Int.le_refl, and_self, and_true, true_and, Qk, htk, n0, Qf, eq_true h4']
      exact hr _ _ hR.symm _ _ rfl rfl rfl
     ·simp only [h4, if_false] at hR
      have h4' : ¬ ((l.length : Nat) : Int) ≥ 400 := by omega
      have wn : IntKind.i64.wrap ((i : Int) + (n : Nat)) = ((i + n : Nat) : Int) := by rw [i64w (by omega) (by omega)]; omega
      have rm : roomy (l.length + 1) 40 = true := by unfold roomy; exact Ql (by omega)
      have ap : l.map rowW ++ [[D.i .i64 k, .s t, .i .i64 v, .i .i64 (i : Nat)]] = (l ++ [((k, t, v), i)]).map rowW := by rw [List.map_append]; rfl
      rw [List.drop_drop] at hR
      have ih' := ih (i + n) f (l ++ [((k, t, v), i)]) (by omega) (by omega) (by omega) (by simp; omega) (by
       rw [← hR, Qg, List.length_singleton]
       simp only [joinW, List.append_assoc, List.singleton_append])
      simp only [evAll, Nat.reduceBEq, ↓reduceIte, Nat.reduceEqDiff, Nat.reduceAdd, Nat.reduceLeDiff, Nat.reduceSub, Nat.reduceLT, reduceCtorEq, Int.reduceEq, Int.reduceLT, Int.reduceLE, Int.reduceNeg, loopQ, Int.reduceToNat, Nat.reduceMul, List.range'_one, rwLoop, c448, eq_true hy, h0, ga, b1, b2, b3, b4, c1, eq_true hle2, Int.le_refl, and_self, and_true, true_and, Qk, htk, n0, Qf, h4', wn, rm, ap, List.length_cons, List.length_nil]
      exact ⟨_, rfl, ih'⟩
  ·have hn : ¬ ((i : Int) < s.length) := by omega
   rw [List.drop_eq_nil_of_le (by omega), wordsG_nil, joinW, List.append_nil] at hR
   refine lx_step ?_
   simp only [evAll, Nat.reduceBEq, ↓reduceIte, Nat.reduceEqDiff, Nat.reduceAdd, Nat.reduceLeDiff, Nat.reduceSub, Nat.reduceLT, reduceCtorEq, Int.reduceEq, Int.reduceLT, Int.reduceLE, Int.reduceNeg, loopQ, Int.reduceToNat, Nat.reduceMul, List.range'_one, rwLoop, c448, hn]
   exact hx _ hR.symm _ rfl
theorem rwords_ok (w : WE E) (s : List UInt8) : lcall E 448 [.d (.s s)] [] = some (ansW (allF s), []) := by
 refine call_q w.e448 ?_
 by_cases h : (s.length : Int) > 1500
 ·have e : allF s = ([], some 0) := by unfold allF; rw [if_pos (by omega)]
  rw [e]
  simp only [evAll, Nat.reduceBEq, ↓reduceIte, Nat.reduceEqDiff, Nat.reduceAdd, Nat.reduceLeDiff, Nat.reduceSub, Nat.reduceLT, reduceCtorEq, Int.reduceEq, Int.reduceLT, Int.reduceLE, Int.reduceNeg, loopQ, Int.reduceToNat, Nat.reduceMul, List.range'_one, c448, eq_true h, ansW]
 have e : allF s = wordsG (s.length + 1) 0 0 s := by unfold allF; rw [if_neg (by omega)]
 simp only [evAll, Nat.reduceBEq, ↓reduceIte, Nat.reduceEqDiff, Nat.reduceAdd, Nat.reduceLeDiff, Nat.reduceSub, Nat.reduceLT, reduceCtorEq, Int.reduceEq, Int.reduceLT, Int.reduceLE, Int.reduceNeg, loopQ, Int.reduceToNat, Nat.reduceMul, List.range'_one, c448, h]
 refine rw_loop w (by omega) (R := allF s) (fun l hR tm t5 => ?_) (fun l p hR tm hp t2 t3 t4 => ?_) (s.length + 1) 0 (s.length + 1) [] (by omega) (by omega) (by omega) (by simp) (by rw [List.drop_zero, e]; rfl)
 ·rw [hR]
  simp only [evAll, Nat.reduceBEq, ↓reduceIte, Nat.reduceEqDiff, Nat.reduceAdd, Nat.reduceLeDiff, Nat.reduceSub, Nat.reduceLT, reduceCtorEq, Int.reduceEq, Int.reduceLT, Int.reduceLE, Int.reduceNeg, loopQ, Int.reduceToNat, Nat.reduceMul, List.range'_one, t5, ansW]
 ·rw [hR]
  simp only [evAll, Nat.reduceBEq, ↓reduceIte, Nat.reduceEqDiff, Nat.reduceAdd, Nat.reduceLeDiff, Nat.reduceSub, Nat.reduceLT, reduceCtorEq, Int.reduceEq, Int.reduceLT, Int.reduceLE, Int.reduceNeg, loopQ, Int.reduceToNat, Nat.reduceMul, List.range'_one, t2, t3, t4, ansW]
end Ab.Wd
