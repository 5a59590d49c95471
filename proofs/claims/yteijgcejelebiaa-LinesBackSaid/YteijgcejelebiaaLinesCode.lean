/-
  Lines: compiled functions: printed by a program of the workbench; the kernel checks each against the model's code.
-/
import Derived.Test.YteijgcejelebiaaPack4
namespace Ab

/-- lemmata/lemmatalaw9.LinesBack -/
def c242 : CFn := ⟨.seq (.region false [
  ⟨(some 4), .mv (.k (.d (.b false))), none, 0⟩]) (
.seq (.seq (.region false [
  ⟨(some 10), .call 245 [] 0 true, none, 0⟩,
  ⟨(some 11), .un .not (.t 10), none, 0⟩]) (
.cond (.t 11) (
.seq (.region false [
  ⟨(some 4), .mv (.k (.d (.b false))), none, 0⟩]) (
.ret)) (.skip))) (
.seq (.seq (.region false [
  ⟨(some 12), .mv (.t 0), none, 0⟩,
  ⟨(some 13), .len 1 (.t 12), none, 0⟩,
  ⟨(some 14), .bin .gtr (.t 13) (.k (.d (.i .i64 60))), none, 0⟩]) (
.cond (.t 14) (
.seq (.region false [
  ⟨(some 4), .mv (.k (.d (.b true))), none, 0⟩]) (
.ret)) (.skip))) (
.seq (.region false [
  ⟨(some 15), .mv (.t 1), none, 0⟩,
  ⟨(some 16), .conv .i64 (.t 15), none, 0⟩,
  ⟨(some 17), .mv (.t 0), none, 0⟩,
  ⟨(some 18), .len 1 (.t 17), none, 0⟩,
  ⟨(some 19), .bin .add (.t 18) (.k (.d (.i .i64 1))), none, 0⟩,
  ⟨(some 20), .bin .rem (.t 16) (.t 19), none, 0⟩,
  ⟨(some 5), .mv (.t 20), none, 0⟩]) (
.seq (.region false [
  ⟨(some 21), .mv (.t 0), none, 0⟩,
  ⟨(some 22), .call 246 [(.t 21)] 0 true, none, 0⟩,
  ⟨(some 6), .mv (.t 22), none, 0⟩]) (
.seq (.region false [
  ⟨(some 24), .mv (.t 6), none, 0⟩,
  ⟨(some 25), .mv (.t 5), none, 0⟩,
  ⟨(some 26), .call 247 [(.t 24), (.t 25)] 0 true, none, 0⟩,
  ⟨(some 23), .mv (.t 26), none, 0⟩,
  ⟨(some 27), .ext (.t 23) 0, none, 0⟩,
  ⟨(some 28), .ext (.t 23) 1, none, 0⟩,
  ⟨(some 7), .mv (.t 27), none, 0⟩,
  ⟨(some 8), .mv (.t 28), none, 0⟩]) (
.seq (.seq (.region false [
  ⟨(some 29), .mv (.t 7), none, 0⟩,
  ⟨(some 30), .bin .lss (.t 29) (.k (.d (.i .i64 1))), none, 0⟩,
  ⟨(some 31), .mv (.t 30), none, 0⟩,
  ⟨(some 32), .mv (.t 7), (some (31, false)), 0⟩,
  ⟨(some 33), .mv (.t 6), (some (31, false)), 0⟩,
  ⟨(some 34), .len 0 (.t 33), (some (31, false)), 0⟩,
  ⟨(some 35), .bin .gtr (.t 32) (.t 34), (some (31, false)), 0⟩,
  ⟨(some 36), .pick (.t 31) (.k (.d (.b true))) (.t 35), none, 0⟩,
  ⟨(some 37), .mv (.t 36), none, 0⟩,
  ⟨(some 38), .mv (.t 8), (some (37, false)), 0⟩,
  ⟨(some 39), .bin .lss (.t 38) (.k (.d (.i .i64 0))), (some (37, false)), 0⟩,
  ⟨(some 40), .pick (.t 37) (.k (.d (.b true))) (.t 39), none, 0⟩,
  ⟨(some 41), .mv (.t 40), none, 0⟩,
  ⟨(some 42), .mv (.t 6), (some (41, false)), 0⟩,
  ⟨(some 43), .mv (.t 7), (some (41, false)), 0⟩,
  ⟨(some 44), .bin .sub (.t 43) (.k (.d (.i .i64 1))), (some (41, false)), 0⟩,
  ⟨(some 45), .ia 1 (.t 42) (.t 44), (some (41, false)), 0⟩,
  ⟨(some 46), .ld false 1 (.t 45), (some (41, false)), 0⟩,
  ⟨(some 47), .mv (.t 8), (some (41, false)), 0⟩,
  ⟨(some 48), .bin .add (.t 46) (.t 47), (some (41, false)), 0⟩,
  ⟨(some 49), .mv (.t 5), (some (41, false)), 0⟩,
  ⟨(some 50), .bin .neq (.t 48) (.t 49), (some (41, false)), 0⟩,
  ⟨(some 51), .pick (.t 41) (.k (.d (.b true))) (.t 50), none, 0⟩]) (
.cond (.t 51) (
.seq (.region false [
  ⟨(some 4), .mv (.k (.d (.b false))), none, 0⟩]) (
.ret)) (.skip))) (
.seq (.seq (.region false [
  ⟨(some 52), .mv (.t 6), none, 0⟩,
  ⟨(some 53), .mv (.t 7), none, 0⟩,
  ⟨(some 54), .bin .sub (.t 53) (.k (.d (.i .i64 1))), none, 0⟩,
  ⟨(some 55), .ia 1 (.t 52) (.t 54), none, 0⟩,
  ⟨(some 56), .ld false 1 (.t 55), none, 0⟩,
  ⟨(some 9), .mv (.t 56), none, 0⟩]) (
.block 0 (.loop ⟨[0, 5, 6, 7, 9], [], [], [], [], true⟩ (.seq (.seq (.region false [
  ⟨(some 57), .mv (.t 9), none, 0⟩,
  ⟨(some 58), .mv (.t 5), none, 0⟩,
  ⟨(some 59), .bin .lss (.t 57) (.t 58), none, 0⟩]) (
.cond (.t 59) (
.skip) (.exit 0))) (
.seq (.block 1 (.seq (.region false [
  ⟨(some 62), .mv (.t 0), none, 0⟩,
  ⟨(some 63), .mv (.t 9), none, 0⟩,
  ⟨(some 64), .ixs (.t 62) (.t 63), none, 0⟩,
  ⟨(some 65), .bin .eql (.t 64) (.k (.d (.i .u8 10))), none, 0⟩]) (
.cond (.t 65) (
.seq (.region false [
  ⟨(some 4), .mv (.k (.d (.b false))), none, 0⟩]) (
.ret)) (.skip)))) (
.region false [
  ⟨(some 60), .mv (.t 9), none, 0⟩,
  ⟨(some 61), .bin .add (.t 60) (.k (.d (.i .i64 1))), none, 0⟩,
  ⟨(some 9), .mv (.t 61), none, 0⟩])))))) (
.seq (.region false [
  ⟨(some 66), .mv (.t 6), none, 0⟩,
  ⟨(some 67), .mv (.t 7), none, 0⟩,
  ⟨(some 68), .bin .sub (.t 67) (.k (.d (.i .i64 1))), none, 0⟩,
  ⟨(some 69), .ia 1 (.t 66) (.t 68), none, 0⟩,
  ⟨(some 70), .ld false 1 (.t 69), none, 0⟩,
  ⟨(some 71), .bin .eql (.t 70) (.k (.d (.i .i64 0))), none, 0⟩,
  ⟨(some 72), .mv (.t 71), none, 0⟩,
  ⟨(some 73), .mv (.t 0), (some (72, false)), 0⟩,
  ⟨(some 74), .mv (.t 6), (some (72, false)), 0⟩,
  ⟨(some 75), .mv (.t 7), (some (72, false)), 0⟩,
  ⟨(some 76), .bin .sub (.t 75) (.k (.d (.i .i64 1))), (some (72, false)), 0⟩,
  ⟨(some 77), .ia 1 (.t 74) (.t 76), (some (72, false)), 0⟩,
  ⟨(some 78), .ld false 1 (.t 77), (some (72, false)), 0⟩,
  ⟨(some 79), .bin .sub (.t 78) (.k (.d (.i .i64 1))), (some (72, false)), 0⟩,
  ⟨(some 80), .ixs (.t 73) (.t 79), (some (72, false)), 0⟩,
  ⟨(some 81), .bin .eql (.t 80) (.k (.d (.i .u8 10))), (some (72, false)), 0⟩,
  ⟨(some 82), .pick (.t 72) (.k (.d (.b true))) (.t 81), none, 0⟩,
  ⟨(some 4), .mv (.t 82), none, 0⟩]) (
.ret))))))))), [.slot 4]⟩
def n242 : Notes := { anns := [⟨[0, 5, 6, 7, 9], [], [], [], [], true⟩], frz := [], rgs := [] }

/-- lemmata/lemmatalaw9.LinesForms -/
def c243 : CFn := ⟨.seq (.region false [
  ⟨(some 0), .mv (.k (.d (.b false))), none, 0⟩]) (
.seq (.seq (.region false [
  ⟨(some 17), .call 245 [] 0 true, none, 0⟩,
  ⟨(some 18), .un .not (.t 17), none, 0⟩]) (
.cond (.t 18) (
.seq (.region false [
  ⟨(some 0), .mv (.k (.d (.b false))), none, 0⟩]) (
.ret)) (.skip))) (
.seq (.region false [
  ⟨(some 19), .bsl 1 5 [(.s [])] [(0, (.k (.d (.s [])))), (1, (.k (.d (.s [97])))), (2, (.k (.d (.s [10])))), (3, (.k (.d (.s [97, 10, 10, 98])))), (4, (.k (.d (.s [10, 10]))))], none, 0⟩,
  ⟨(some 1), .mv (.t 19), none, 0⟩]) (
.seq (.region false [
  ⟨(some 20), .bsl 1 5 [(.i .i64 0)] [(0, (.k (.d (.i .i64 1)))), (1, (.k (.d (.i .i64 1)))), (2, (.k (.d (.i .i64 2)))), (3, (.k (.d (.i .i64 3)))), (4, (.k (.d (.i .i64 3))))], none, 0⟩,
  ⟨(some 2), .mv (.t 20), none, 0⟩]) (
.seq (.seq (.region false [
  ⟨(some 3), .mv (.k (.d (.i .i64 0))), none, 0⟩]) (
.block 0 (.loop ⟨[1, 2, 3], [], [], [], [], true⟩ (.seq (.seq (.region false [
  ⟨(some 21), .mv (.t 3), none, 0⟩,
  ⟨(some 22), .mv (.t 1), none, 0⟩,
  ⟨(some 23), .len 0 (.t 22), none, 0⟩,
  ⟨(some 24), .bin .lss (.t 21) (.t 23), none, 0⟩]) (
.cond (.t 24) (
.skip) (.exit 0))) (
.seq (.block 1 (.seq (.region false [
  ⟨(some 27), .mv (.t 1), none, 0⟩,
  ⟨(some 28), .mv (.t 3), none, 0⟩,
  ⟨(some 29), .ia 1 (.t 27) (.t 28), none, 0⟩,
  ⟨(some 30), .ld false 1 (.t 29), none, 0⟩,
  ⟨(some 31), .call 246 [(.t 30)] 0 true, none, 0⟩,
  ⟨(some 4), .mv (.t 31), none, 0⟩]) (
.seq (.region false [
  ⟨(some 32), .mv (.t 4), none, 0⟩,
  ⟨(some 33), .len 0 (.t 32), none, 0⟩,
  ⟨(some 34), .mv (.t 2), none, 0⟩,
  ⟨(some 35), .mv (.t 3), none, 0⟩,
  ⟨(some 36), .ia 1 (.t 34) (.t 35), none, 0⟩,
  ⟨(some 37), .ld false 1 (.t 36), none, 0⟩,
  ⟨(some 38), .bin .neq (.t 33) (.t 37), none, 0⟩,
  ⟨(some 39), .mv (.t 38), none, 0⟩,
  ⟨(some 40), .mv (.t 4), (some (39, false)), 0⟩,
  ⟨(some 41), .ia 1 (.t 40) (.k (.d (.i .i64 0))), (some (39, false)), 0⟩,
  ⟨(some 42), .ld false 1 (.t 41), (some (39, false)), 0⟩,
  ⟨(some 43), .bin .neq (.t 42) (.k (.d (.i .i64 0))), (some (39, false)), 0⟩,
  ⟨(some 44), .pick (.t 39) (.k (.d (.b true))) (.t 43), none, 0⟩]) (
.cond (.t 44) (
.seq (.region false [
  ⟨(some 0), .mv (.k (.d (.b false))), none, 0⟩]) (
.ret)) (.skip))))) (
.region false [
  ⟨(some 25), .mv (.t 3), none, 0⟩,
  ⟨(some 26), .bin .add (.t 25) (.k (.d (.i .i64 1))), none, 0⟩,
  ⟨(some 3), .mv (.t 26), none, 0⟩])))))) (
.seq (.region false [
  ⟨(some 45), .call 246 [(.k (.d (.s [97, 10, 10, 98])))] 0 true, none, 0⟩,
  ⟨(some 5), .mv (.t 45), none, 0⟩]) (
.seq (.region false [
  ⟨(some 47), .mv (.t 5), none, 0⟩,
  ⟨(some 48), .call 247 [(.t 47), (.k (.d (.i .i64 0)))] 0 true, none, 0⟩,
  ⟨(some 46), .mv (.t 48), none, 0⟩,
  ⟨(some 49), .ext (.t 46) 0, none, 0⟩,
  ⟨(some 50), .ext (.t 46) 1, none, 0⟩,
  ⟨(some 6), .mv (.t 49), none, 0⟩,
  ⟨(some 7), .mv (.t 50), none, 0⟩]) (
.seq (.region false [
  ⟨(some 52), .mv (.t 5), none, 0⟩,
  ⟨(some 53), .call 247 [(.t 52), (.k (.d (.i .i64 2)))] 0 true, none, 0⟩,
  ⟨(some 51), .mv (.t 53), none, 0⟩,
  ⟨(some 54), .ext (.t 51) 0, none, 0⟩,
  ⟨(some 55), .ext (.t 51) 1, none, 0⟩,
  ⟨(some 8), .mv (.t 54), none, 0⟩,
  ⟨(some 9), .mv (.t 55), none, 0⟩]) (
.seq (.region false [
  ⟨(some 57), .mv (.t 5), none, 0⟩,
  ⟨(some 58), .call 247 [(.t 57), (.k (.d (.i .i64 99)))] 0 true, none, 0⟩,
  ⟨(some 56), .mv (.t 58), none, 0⟩,
  ⟨(some 59), .ext (.t 56) 0, none, 0⟩,
  ⟨(some 60), .ext (.t 56) 1, none, 0⟩,
  ⟨(some 10), .mv (.t 59), none, 0⟩,
  ⟨(some 11), .mv (.t 60), none, 0⟩]) (
.seq (.region false [
  ⟨(some 62), .mv (.t 5), none, 0⟩,
  ⟨(some 63), .call 247 [(.t 62), (.k (.d (.i .i64 (-5))))] 0 true, none, 0⟩,
  ⟨(some 61), .mv (.t 63), none, 0⟩,
  ⟨(some 64), .ext (.t 61) 0, none, 0⟩,
  ⟨(some 65), .ext (.t 61) 1, none, 0⟩,
  ⟨(some 12), .mv (.t 64), none, 0⟩,
  ⟨(some 13), .mv (.t 65), none, 0⟩]) (
.seq (.region false [
  ⟨(some 67), .call 247 [(.k (.nil 1)), (.k (.d (.i .i64 7)))] 0 true, none, 0⟩,
  ⟨(some 66), .mv (.t 67), none, 0⟩,
  ⟨(some 68), .ext (.t 66) 0, none, 0⟩,
  ⟨(some 69), .ext (.t 66) 1, none, 0⟩,
  ⟨(some 14), .mv (.t 68), none, 0⟩,
  ⟨(some 15), .mv (.t 69), none, 0⟩]) (
.seq (.region false [
  ⟨(some 70), .mv (.t 5), none, 0⟩,
  ⟨(some 71), .build [(.d (.i .i64 0)), (.d (.i .i64 0)), (.d (.s []))] [(0, 1, (.k (.d (.i .i64 1)))), (1, 1, (.k (.d (.i .i64 1)))), (2, 1, (.k (.d (.s [120, 10, 121]))))], none, 0⟩,
  ⟨(some 72), .call 248 [(.t 70), (.t 71)] 0 true, none, 0⟩,
  ⟨(some 16), .mv (.t 72), none, 0⟩]) (
.seq (.region false [
  ⟨(some 73), .mv (.t 5), none, 0⟩,
  ⟨(some 74), .ia 1 (.t 73) (.k (.d (.i .i64 1))), none, 0⟩,
  ⟨(some 75), .ld false 1 (.t 74), none, 0⟩,
  ⟨(some 76), .bin .eql (.t 75) (.k (.d (.i .i64 2))), none, 0⟩,
  ⟨(some 77), .mv (.t 76), none, 0⟩,
  ⟨(some 78), .mv (.t 5), (some (77, true)), 0⟩,
  ⟨(some 79), .ia 1 (.t 78) (.k (.d (.i .i64 2))), (some (77, true)), 0⟩,
  ⟨(some 80), .ld false 1 (.t 79), (some (77, true)), 0⟩,
  ⟨(some 81), .bin .eql (.t 80) (.k (.d (.i .i64 3))), (some (77, true)), 0⟩,
  ⟨(some 82), .pick (.t 77) (.t 81) (.k (.d (.b false))), none, 0⟩,
  ⟨(some 83), .mv (.t 82), none, 0⟩,
  ⟨(some 84), .mv (.t 6), (some (83, true)), 0⟩,
  ⟨(some 85), .bin .eql (.t 84) (.k (.d (.i .i64 1))), (some (83, true)), 0⟩,
  ⟨(some 86), .pick (.t 83) (.t 85) (.k (.d (.b false))), none, 0⟩,
  ⟨(some 87), .mv (.t 86), none, 0⟩,
  ⟨(some 88), .mv (.t 7), (some (87, true)), 0⟩,
  ⟨(some 89), .bin .eql (.t 88) (.k (.d (.i .i64 0))), (some (87, true)), 0⟩,
  ⟨(some 90), .pick (.t 87) (.t 89) (.k (.d (.b false))), none, 0⟩,
  ⟨(some 91), .mv (.t 90), none, 0⟩,
  ⟨(some 92), .mv (.t 8), (some (91, true)), 0⟩,
  ⟨(some 93), .bin .eql (.t 92) (.k (.d (.i .i64 2))), (some (91, true)), 0⟩,
  ⟨(some 94), .pick (.t 91) (.t 93) (.k (.d (.b false))), none, 0⟩,
  ⟨(some 95), .mv (.t 94), none, 0⟩,
  ⟨(some 96), .mv (.t 9), (some (95, true)), 0⟩,
  ⟨(some 97), .bin .eql (.t 96) (.k (.d (.i .i64 0))), (some (95, true)), 0⟩,
  ⟨(some 98), .pick (.t 95) (.t 97) (.k (.d (.b false))), none, 0⟩,
  ⟨(some 99), .mv (.t 98), none, 0⟩,
  ⟨(some 100), .mv (.t 10), (some (99, true)), 0⟩,
  ⟨(some 101), .bin .eql (.t 100) (.k (.d (.i .i64 3))), (some (99, true)), 0⟩,
  ⟨(some 102), .pick (.t 99) (.t 101) (.k (.d (.b false))), none, 0⟩,
  ⟨(some 103), .mv (.t 102), none, 0⟩,
  ⟨(some 104), .mv (.t 11), (some (103, true)), 0⟩,
  ⟨(some 105), .bin .eql (.t 104) (.k (.d (.i .i64 96))), (some (103, true)), 0⟩,
  ⟨(some 106), .pick (.t 103) (.t 105) (.k (.d (.b false))), none, 0⟩,
  ⟨(some 107), .mv (.t 106), none, 0⟩,
  ⟨(some 108), .mv (.t 12), (some (107, true)), 0⟩,
  ⟨(some 109), .bin .eql (.t 108) (.k (.d (.i .i64 1))), (some (107, true)), 0⟩,
  ⟨(some 110), .pick (.t 107) (.t 109) (.k (.d (.b false))), none, 0⟩,
  ⟨(some 111), .mv (.t 110), none, 0⟩,
  ⟨(some 112), .mv (.t 13), (some (111, true)), 0⟩,
  ⟨(some 113), .bin .eql (.t 112) (.k (.d (.i .i64 0))), (some (111, true)), 0⟩,
  ⟨(some 114), .pick (.t 111) (.t 113) (.k (.d (.b false))), none, 0⟩,
  ⟨(some 115), .mv (.t 114), none, 0⟩,
  ⟨(some 116), .mv (.t 14), (some (115, true)), 0⟩,
  ⟨(some 117), .bin .eql (.t 116) (.k (.d (.i .i64 1))), (some (115, true)), 0⟩,
  ⟨(some 118), .pick (.t 115) (.t 117) (.k (.d (.b false))), none, 0⟩,
  ⟨(some 119), .mv (.t 118), none, 0⟩,
  ⟨(some 120), .mv (.t 15), (some (119, true)), 0⟩,
  ⟨(some 121), .bin .eql (.t 120) (.k (.d (.i .i64 7))), (some (119, true)), 0⟩,
  ⟨(some 122), .pick (.t 119) (.t 121) (.k (.d (.b false))), none, 0⟩,
  ⟨(some 123), .mv (.t 122), none, 0⟩,
  ⟨(some 124), .mv (.t 16), (some (123, true)), 0⟩,
  ⟨(some 125), .len 0 (.t 124), (some (123, true)), 0⟩,
  ⟨(some 126), .bin .eql (.t 125) (.k (.d (.i .i64 3))), (some (123, true)), 0⟩,
  ⟨(some 127), .pick (.t 123) (.t 126) (.k (.d (.b false))), none, 0⟩,
  ⟨(some 128), .mv (.t 127), none, 0⟩,
  ⟨(some 129), .mv (.t 16), (some (128, true)), 0⟩,
  ⟨(some 130), .ia 1 (.t 129) (.k (.d (.i .i64 1))), (some (128, true)), 0⟩,
  ⟨(some 131), .ld false 1 (.t 130), (some (128, true)), 0⟩,
  ⟨(some 132), .bin .eql (.t 131) (.k (.d (.i .i64 3))), (some (128, true)), 0⟩,
  ⟨(some 133), .pick (.t 128) (.t 132) (.k (.d (.b false))), none, 0⟩,
  ⟨(some 134), .mv (.t 133), none, 0⟩,
  ⟨(some 135), .mv (.t 16), (some (134, true)), 0⟩,
  ⟨(some 136), .ia 1 (.t 135) (.k (.d (.i .i64 2))), (some (134, true)), 0⟩,
  ⟨(some 137), .ld false 1 (.t 136), (some (134, true)), 0⟩,
  ⟨(some 138), .bin .eql (.t 137) (.k (.d (.i .i64 5))), (some (134, true)), 0⟩,
  ⟨(some 139), .pick (.t 134) (.t 138) (.k (.d (.b false))), none, 0⟩,
  ⟨(some 0), .mv (.t 139), none, 0⟩]) (
.ret))))))))))))), [.slot 0]⟩
def n243 : Notes := { anns := [⟨[1, 2, 3], [], [], [], [], true⟩], frz := [], rgs := [] }

/-- lemmata/lemmatalaw9.LinesJoin -/
def c244 : CFn := ⟨.seq (.region false [
  ⟨(some 4), .mv (.k (.d (.b false))), none, 0⟩]) (
.seq (.seq (.region false [
  ⟨(some 9), .call 245 [] 0 true, none, 0⟩,
  ⟨(some 10), .un .not (.t 9), none, 0⟩]) (
.cond (.t 10) (
.seq (.region false [
  ⟨(some 4), .mv (.k (.d (.b false))), none, 0⟩]) (
.ret)) (.skip))) (
.seq (.seq (.region false [
  ⟨(some 11), .mv (.t 0), none, 0⟩,
  ⟨(some 12), .len 1 (.t 11), none, 0⟩,
  ⟨(some 13), .bin .gtr (.t 12) (.k (.d (.i .i64 60))), none, 0⟩,
  ⟨(some 14), .mv (.t 13), none, 0⟩,
  ⟨(some 15), .mv (.t 1), (some (14, false)), 0⟩,
  ⟨(some 16), .len 1 (.t 15), (some (14, false)), 0⟩,
  ⟨(some 17), .bin .gtr (.t 16) (.k (.d (.i .i64 60))), (some (14, false)), 0⟩,
  ⟨(some 18), .pick (.t 14) (.k (.d (.b true))) (.t 17), none, 0⟩]) (
.cond (.t 18) (
.seq (.region false [
  ⟨(some 4), .mv (.k (.d (.b true))), none, 0⟩]) (
.ret)) (.skip))) (
.seq (.region false [
  ⟨(some 19), .mv (.t 0), none, 0⟩,
  ⟨(some 20), .call 246 [(.t 19)] 0 true, none, 0⟩,
  ⟨(some 21), .mv (.t 1), none, 0⟩,
  ⟨(some 22), .call 246 [(.t 21)] 0 true, none, 0⟩,
  ⟨(some 23), .mv (.t 0), none, 0⟩,
  ⟨(some 24), .mv (.t 1), none, 0⟩,
  ⟨(some 25), .bin .add (.t 23) (.t 24), none, 0⟩,
  ⟨(some 26), .call 246 [(.t 25)] 0 true, none, 0⟩,
  ⟨(some 5), .mv (.t 20), none, 0⟩,
  ⟨(some 6), .mv (.t 22), none, 0⟩,
  ⟨(some 7), .mv (.t 26), none, 0⟩]) (
.seq (.seq (.region false [
  ⟨(some 27), .mv (.t 7), none, 0⟩,
  ⟨(some 28), .len 0 (.t 27), none, 0⟩,
  ⟨(some 29), .mv (.t 5), none, 0⟩,
  ⟨(some 30), .len 0 (.t 29), none, 0⟩,
  ⟨(some 31), .mv (.t 6), none, 0⟩,
  ⟨(some 32), .len 0 (.t 31), none, 0⟩,
  ⟨(some 33), .bin .add (.t 30) (.t 32), none, 0⟩,
  ⟨(some 34), .bin .sub (.t 33) (.k (.d (.i .i64 1))), none, 0⟩,
  ⟨(some 35), .bin .neq (.t 28) (.t 34), none, 0⟩]) (
.cond (.t 35) (
.seq (.region false [
  ⟨(some 4), .mv (.k (.d (.b false))), none, 0⟩]) (
.ret)) (.skip))) (
.seq (.seq (.region false [
  ⟨(some 8), .mv (.k (.d (.i .i64 0))), none, 0⟩]) (
.block 0 (.loop ⟨[0, 1, 5, 6, 7, 8], [], [], [], [], true⟩ (.seq (.seq (.region false [
  ⟨(some 36), .mv (.t 8), none, 0⟩,
  ⟨(some 37), .mv (.t 7), none, 0⟩,
  ⟨(some 38), .len 0 (.t 37), none, 0⟩,
  ⟨(some 39), .bin .lss (.t 36) (.t 38), none, 0⟩]) (
.cond (.t 39) (
.skip) (.exit 0))) (
.seq (.block 1 (.seq (.region true [
  ⟨(some 42), .mv (.t 8), none, 0⟩,
  ⟨(some 43), .mv (.t 5), none, 0⟩,
  ⟨(some 44), .len 0 (.t 43), none, 2⟩,
  ⟨(some 45), .bin .lss (.t 42) (.t 44), none, 7⟩,
  ⟨(some 46), .mv (.t 45), none, 15⟩,
  ⟨(some 47), .mv (.t 7), (some (46, true)), 31⟩,
  ⟨(some 48), .mv (.t 8), (some (46, true)), 31⟩,
  ⟨(some 49), .ia 1 (.t 47) (.t 48), (some (46, true)), 127⟩,
  ⟨(some 50), .ld false 1 (.t 49), (some (46, true)), 255⟩,
  ⟨(some 51), .mv (.t 5), (some (46, true)), 31⟩,
  ⟨(some 52), .mv (.t 8), (some (46, true)), 31⟩,
  ⟨(some 53), .ia 1 (.t 51) (.t 52), (some (46, true)), 1567⟩,
  ⟨(some 54), .ld false 1 (.t 53), (some (46, true)), 3615⟩,
  ⟨(some 55), .bin .neq (.t 50) (.t 54), (some (46, true)), 8191⟩,
  ⟨(some 56), .pick (.t 46) (.t 55) (.k (.d (.b false))), none, 16383⟩,
  ⟨(some 57), .mv (.t 56), none, 32767⟩,
  ⟨(some 58), .mv (.t 8), (some (57, false)), 65535⟩,
  ⟨(some 59), .mv (.t 5), (some (57, false)), 65535⟩,
  ⟨(some 60), .len 0 (.t 59), (some (57, false)), 196607⟩,
  ⟨(some 61), .bin .geq (.t 58) (.t 60), (some (57, false)), 524287⟩,
  ⟨(some 62), .mv (.t 61), (some (57, false)), 1048575⟩,
  ⟨(some 63), .mv (.t 7), (some (62, true)), 2097151⟩,
  ⟨(some 64), .mv (.t 8), (some (62, true)), 2097151⟩,
  ⟨(some 65), .ia 1 (.t 63) (.t 64), (some (62, true)), 8388607⟩,
  ⟨(some 66), .ld false 1 (.t 65), (some (62, true)), 16777215⟩,
  ⟨(some 67), .mv (.t 6), (some (62, true)), 2097151⟩,
  ⟨(some 68), .mv (.t 8), (some (62, true)), 2097151⟩,
  ⟨(some 69), .mv (.t 5), (some (62, true)), 2097151⟩,
  ⟨(some 70), .len 0 (.t 69), (some (62, true)), 136314879⟩,
  ⟨(some 71), .bin .sub (.t 68) (.t 70), (some (62, true)), 471859199⟩,
  ⟨(some 72), .bin .add (.t 71) (.k (.d (.i .i64 1))), (some (62, true)), 1008730111⟩,
  ⟨(some 73), .ia 1 (.t 67) (.t 72), (some (62, true)), 2116026367⟩,
  ⟨(some 74), .ld false 1 (.t 73), (some (62, true)), 4263510015⟩,
  ⟨(some 75), .mv (.t 0), (some (62, true)), 2097151⟩,
  ⟨(some 76), .len 1 (.t 75), (some (62, true)), 8592031743⟩,
  ⟨(some 77), .bin .add (.t 74) (.t 76), (some (62, true)), 34328281087⟩,
  ⟨(some 78), .bin .neq (.t 66) (.t 77), (some (62, true)), 68719476735⟩,
  ⟨(some 79), .pick (.t 62) (.t 78) (.k (.d (.b false))), (some (57, false)), 137438953471⟩,
  ⟨(some 80), .pick (.t 57) (.k (.d (.b true))) (.t 79), none, 274877906943⟩]) (
.cond (.t 80) (
.seq (.region false [
  ⟨(some 4), .mv (.k (.d (.b false))), none, 0⟩]) (
.ret)) (.skip)))) (
.region false [
  ⟨(some 40), .mv (.t 8), none, 0⟩,
  ⟨(some 41), .bin .add (.t 40) (.k (.d (.i .i64 1))), none, 0⟩,
  ⟨(some 8), .mv (.t 41), none, 0⟩])))))) (
.seq (.region false [
  ⟨(some 81), .mv (.t 5), none, 0⟩,
  ⟨(some 82), .mv (.t 0), none, 0⟩,
  ⟨(some 83), .len 1 (.t 82), none, 0⟩,
  ⟨(some 84), .mv (.t 1), none, 0⟩,
  ⟨(some 85), .build [(.d (.i .i64 0)), (.d (.i .i64 0)), (.d (.s []))] [(0, 1, (.t 83)), (2, 1, (.t 84))], none, 0⟩,
  ⟨(some 86), .call 248 [(.t 81), (.t 85)] 0 true, none, 0⟩,
  ⟨(some 87), .mv (.t 7), none, 0⟩,
  ⟨(some 88), .call 249 [(.t 86), (.t 87)] 0 true, none, 0⟩,
  ⟨(some 89), .mv (.t 88), none, 0⟩,
  ⟨(some 90), .mv (.t 6), (some (89, true)), 0⟩,
  ⟨(some 91), .mv (.t 0), (some (89, true)), 0⟩,
  ⟨(some 92), .build [(.d (.i .i64 0)), (.d (.i .i64 0)), (.d (.s []))] [(2, 1, (.t 91))], (some (89, true)), 0⟩,
  ⟨(some 93), .call 248 [(.t 90), (.t 92)] 0 true, (some (89, true)), 0⟩,
  ⟨(some 94), .mv (.t 7), (some (89, true)), 0⟩,
  ⟨(some 95), .call 249 [(.t 93), (.t 94)] 0 true, (some (89, true)), 0⟩,
  ⟨(some 96), .pick (.t 89) (.t 95) (.k (.d (.b false))), none, 0⟩,
  ⟨(some 4), .mv (.t 96), none, 0⟩]) (
.ret))))))), [.slot 4]⟩
def n244 : Notes := { anns := [⟨[0, 1, 5, 6, 7, 8], [], [], [], [], true⟩], frz := [], rgs := [] }

/-- lemmata/lemmatalaw9.begun -/
def c245 : CFn := ⟨.seq (.region false [
  ⟨(some 0), .mv (.k (.d (.b false))), none, 0⟩]) (
.seq (.region false [
  ⟨(some 5), .call 246 [(.k (.d (.s [97, 10, 98])))] 0 true, none, 0⟩,
  ⟨(some 1), .mv (.t 5), none, 0⟩]) (
.seq (.region false [
  ⟨(some 7), .mv (.t 1), none, 0⟩,
  ⟨(some 8), .call 247 [(.t 7), (.k (.d (.i .i64 3)))] 0 true, none, 0⟩,
  ⟨(some 6), .mv (.t 8), none, 0⟩,
  ⟨(some 9), .ext (.t 6) 0, none, 0⟩,
  ⟨(some 10), .ext (.t 6) 1, none, 0⟩,
  ⟨(some 2), .mv (.t 9), none, 0⟩,
  ⟨(some 3), .mv (.t 10), none, 0⟩]) (
.seq (.region false [
  ⟨(some 11), .mv (.t 1), none, 0⟩,
  ⟨(some 12), .build [(.d (.i .i64 0)), (.d (.i .i64 0)), (.d (.s []))] [(0, 1, (.k (.d (.i .i64 1)))), (1, 1, (.k (.d (.i .i64 1))))], none, 0⟩,
  ⟨(some 13), .call 248 [(.t 11), (.t 12)] 0 true, none, 0⟩,
  ⟨(some 4), .mv (.t 13), none, 0⟩]) (
.seq (.region false [
  ⟨(some 14), .mv (.t 1), none, 0⟩,
  ⟨(some 15), .len 0 (.t 14), none, 0⟩,
  ⟨(some 16), .bin .eql (.t 15) (.k (.d (.i .i64 2))), none, 0⟩,
  ⟨(some 17), .mv (.t 16), none, 0⟩,
  ⟨(some 18), .mv (.t 1), (some (17, true)), 0⟩,
  ⟨(some 19), .ia 1 (.t 18) (.k (.d (.i .i64 1))), (some (17, true)), 0⟩,
  ⟨(some 20), .ld false 1 (.t 19), (some (17, true)), 0⟩,
  ⟨(some 21), .bin .eql (.t 20) (.k (.d (.i .i64 2))), (some (17, true)), 0⟩,
  ⟨(some 22), .pick (.t 17) (.t 21) (.k (.d (.b false))), none, 0⟩,
  ⟨(some 23), .mv (.t 22), none, 0⟩,
  ⟨(some 24), .mv (.t 2), (some (23, true)), 0⟩,
  ⟨(some 25), .bin .eql (.t 24) (.k (.d (.i .i64 2))), (some (23, true)), 0⟩,
  ⟨(some 26), .pick (.t 23) (.t 25) (.k (.d (.b false))), none, 0⟩,
  ⟨(some 27), .mv (.t 26), none, 0⟩,
  ⟨(some 28), .mv (.t 3), (some (27, true)), 0⟩,
  ⟨(some 29), .bin .eql (.t 28) (.k (.d (.i .i64 1))), (some (27, true)), 0⟩,
  ⟨(some 30), .pick (.t 27) (.t 29) (.k (.d (.b false))), none, 0⟩,
  ⟨(some 31), .mv (.t 30), none, 0⟩,
  ⟨(some 32), .mv (.t 4), (some (31, true)), 0⟩,
  ⟨(some 33), .len 0 (.t 32), (some (31, true)), 0⟩,
  ⟨(some 34), .bin .eql (.t 33) (.k (.d (.i .i64 1))), (some (31, true)), 0⟩,
  ⟨(some 35), .pick (.t 31) (.t 34) (.k (.d (.b false))), none, 0⟩,
  ⟨(some 0), .mv (.t 35), none, 0⟩]) (
.ret))))), [.slot 0]⟩
def n245 : Notes := { anns := [], frz := [], rgs := [] }

/-- lemmata/lines.Starts -/
def c246 : CFn := ⟨.seq (.region false [
  ⟨(some 2), .mv (.k (.nil 1)), none, 0⟩]) (
.seq (.region false [
  ⟨(some 5), .bsl 1 1 [(.i .i64 0)] [(0, (.k (.d (.i .i64 0))))], none, 0⟩,
  ⟨(some 3), .zero (.nil 1), none, 0⟩,
  ⟨none, .st 1 (.t 3) (.t 5), none, 0⟩]) (
.seq (.seq (.region false [
  ⟨(some 6), .mv (.t 0), none, 0⟩,
  ⟨(some 7), .call 250 [(.t 6)] 4 true, none, 0⟩]) (
.block 0 (.range [(3, 0)] (.t 7) 10246 [3] 4))) (
.seq (.region false [
  ⟨(some 13), .ld false 1 (.t 3), none, 0⟩,
  ⟨(some 2), .mv (.t 13), none, 0⟩]) (
.ret)))), [.slot 2]⟩
def n246 : Notes := { anns := [], frz := [], rgs := [(10246, [3], 4, [(3, 0)])] }

/-- lemmata/lines.Pos -/
def c247 : CFn := ⟨.seq (.region false [
  ⟨(some 2), .box (.t 0), none, 0⟩,
  ⟨(some 3), .box (.t 1), none, 0⟩,
  ⟨(some 4), .mv (.k (.d (.i .i64 0))), none, 0⟩,
  ⟨(some 5), .mv (.k (.d (.i .i64 0))), none, 0⟩]) (
.seq (.region false [
  ⟨(some 6), .ld false 1 (.t 3), none, 0⟩,
  ⟨(some 7), .mm true [(.t 6), (.k (.d (.i .i64 0)))], none, 0⟩,
  ⟨none, .st 1 (.t 3) (.t 7), none, 0⟩]) (
.seq (.seq (.region false [
  ⟨(some 8), .ld false 1 (.t 2), none, 0⟩,
  ⟨(some 9), .len 0 (.t 8), none, 0⟩,
  ⟨(some 10), .mkf 252 [] [(.t 2), (.t 3)] true, none, 0⟩,
  ⟨(some 11), .call 251 [(.t 9), (.t 10)] 4 true, none, 0⟩,
  ⟨(some 4), .mv (.t 11), none, 0⟩]) (
.seq (.region false [
  ⟨(some 12), .mv (.t 4), none, 0⟩,
  ⟨(some 13), .bin .eql (.t 12) (.k (.d (.i .i64 0))), none, 0⟩]) (
.cond (.t 13) (
.seq (.region true [
  ⟨(some 14), .ld false 1 (.t 3), none, 0⟩,
  ⟨(some 4), .mv (.k (.d (.i .i64 1))), none, 0⟩,
  ⟨(some 5), .mv (.t 14), none, 3⟩]) (
.ret)) (.skip)))) (
.seq (.region true [
  ⟨(some 15), .mv (.t 4), none, 0⟩,
  ⟨(some 16), .ld false 1 (.t 3), none, 0⟩,
  ⟨(some 17), .ld false 1 (.t 2), none, 0⟩,
  ⟨(some 18), .mv (.t 4), none, 0⟩,
  ⟨(some 19), .bin .sub (.t 18) (.k (.d (.i .i64 1))), none, 8⟩,
  ⟨(some 20), .ia 1 (.t 17) (.t 19), none, 28⟩,
  ⟨(some 21), .ld false 1 (.t 20), none, 60⟩,
  ⟨(some 22), .bin .sub (.t 16) (.t 21), none, 126⟩,
  ⟨(some 4), .mv (.t 15), none, 9⟩,
  ⟨(some 5), .mv (.t 22), none, 511⟩]) (
.ret)))), [.slot 4, .slot 5]⟩
def n247 : Notes := { anns := [], frz := [0, 0, 0, 0, 0, 0, 0, 0, 0, 1], rgs := [] }

/-- lemmata/lines.Edit -/
def c248 : CFn := ⟨.seq (.region false [
  ⟨(some 3), .box (.t 1), none, 0⟩,
  ⟨(some 4), .zero (.nil 1), none, 0⟩]) (
.seq (.region false [
  ⟨(some 5), .zero (.d (.b false)), none, 0⟩,
  ⟨none, .st 1 (.t 5) (.k (.d (.b false))), none, 0⟩]) (
.seq (.region false [
  ⟨(some 9), .mkf 253 [] [(.t 3), (.t 5), (.t 4)] false, none, 0⟩,
  ⟨(some 6), .mv (.t 9), none, 0⟩]) (
.seq (.seq (.region false [
  ⟨(some 10), .mv (.t 0), none, 0⟩,
  ⟨(some 11), .len 0 (.t 10), none, 0⟩,
  ⟨(some 12), .mv (.k (.d (.i .i64 0))), none, 0⟩]) (
.block 0 (.loop ⟨[3, 4, 6, 10, 11, 12], [], [(4, 0)], [], [], true⟩ (.seq (.region false [
  ⟨(some 13), .bin .lss (.t 12) (.t 11), none, 0⟩]) (
.seq (.cond (.t 13) (
.skip) (.exit 0)) (
.seq (.block 1 (.seq (.region false [
  ⟨(some 14), .ia 1 (.t 10) (.t 12), none, 0⟩,
  ⟨(some 15), .ld false 1 (.t 14), none, 0⟩,
  ⟨(some 8), .mv (.t 15), none, 0⟩]) (
.block 2 (.seq (.region false [
  ⟨(some 17), .mv (.t 8), none, 0⟩,
  ⟨(some 18), .fa 0 (.t 3), none, 0⟩,
  ⟨(some 19), .ld false 1 (.t 18), none, 0⟩,
  ⟨(some 20), .bin .leq (.t 17) (.t 19), none, 0⟩,
  ⟨(some 16), .mv (.t 20), none, 0⟩]) (
.cond (.t 16) (
.region false [
  ⟨(some 21), .ld false 1 (.t 4), none, 0⟩,
  ⟨(some 22), .mv (.t 8), none, 0⟩,
  ⟨(some 23), .bsl 1 1 [(.i .i64 0)] [(0, (.t 22))], none, 0⟩,
  ⟨(some 24), .app 1 8 (.t 21) (.t 23), none, 0⟩,
  ⟨none, .st 1 (.t 4) (.t 24), none, 0⟩]) (.seq (.region false [
  ⟨(some 26), .mv (.t 8), none, 0⟩,
  ⟨(some 27), .fa 0 (.t 3), none, 0⟩,
  ⟨(some 28), .ld false 1 (.t 27), none, 0⟩,
  ⟨(some 29), .fa 1 (.t 3), none, 0⟩,
  ⟨(some 30), .ld false 1 (.t 29), none, 0⟩,
  ⟨(some 31), .bin .add (.t 28) (.t 30), none, 0⟩,
  ⟨(some 32), .bin .gtr (.t 26) (.t 31), none, 0⟩,
  ⟨(some 25), .mv (.t 32), none, 0⟩]) (
.cond (.t 25) (
.seq (.region false [
  ⟨(some 33), .mv (.t 6), none, 0⟩,
  ⟨(some 34), .callv (.t 33) [] 4 true, none, 0⟩]) (
.region false [
  ⟨(some 35), .ld false 1 (.t 4), none, 0⟩,
  ⟨(some 36), .mv (.t 8), none, 0⟩,
  ⟨(some 37), .fa 2 (.t 3), none, 0⟩,
  ⟨(some 38), .ld false 1 (.t 37), none, 0⟩,
  ⟨(some 39), .len 1 (.t 38), none, 0⟩,
  ⟨(some 40), .bin .add (.t 36) (.t 39), none, 0⟩,
  ⟨(some 41), .fa 1 (.t 3), none, 0⟩,
  ⟨(some 42), .ld false 1 (.t 41), none, 0⟩,
  ⟨(some 43), .bin .sub (.t 40) (.t 42), none, 0⟩,
  ⟨(some 44), .bsl 1 1 [(.i .i64 0)] [(0, (.t 43))], none, 0⟩,
  ⟨(some 45), .app 1 8 (.t 35) (.t 44), none, 0⟩,
  ⟨none, .st 1 (.t 4) (.t 45), none, 0⟩])) (.skip)))))))) (
.region false [
  ⟨(some 46), .bin .add (.t 12) (.k (.d (.i .i64 1))), none, 0⟩,
  ⟨(some 12), .mv (.t 46), none, 0⟩]))))))) (
.seq (.region false [
  ⟨(some 47), .mv (.t 6), none, 0⟩,
  ⟨(some 48), .callv (.t 47) [] 4 true, none, 0⟩]) (
.seq (.region false [
  ⟨(some 49), .ld false 1 (.t 4), none, 0⟩,
  ⟨none, .st 1 (.t 4) (.t 49), none, 0⟩]) (
.ret)))))), [.cell 4 false 1]⟩
def n248 : Notes := { anns := [⟨[3, 4, 6, 10, 11, 12], [], [(4, 0)], [], [], true⟩], frz := [], rgs := [] }

/-- lemmata/lemmataref3.SameInts -/
def c249 : CFn := ⟨.seq (.region false [
  ⟨(some 4), .mv (.k (.d (.b false))), none, 0⟩]) (
.seq (.seq (.region false [
  ⟨(some 6), .mv (.t 0), none, 0⟩,
  ⟨(some 7), .len 0 (.t 6), none, 0⟩,
  ⟨(some 8), .mv (.t 1), none, 0⟩,
  ⟨(some 9), .len 0 (.t 8), none, 0⟩,
  ⟨(some 10), .bin .neq (.t 7) (.t 9), none, 0⟩]) (
.cond (.t 10) (
.seq (.region false [
  ⟨(some 4), .mv (.k (.d (.b false))), none, 0⟩]) (
.ret)) (.skip))) (
.seq (.seq (.region false [
  ⟨(some 5), .mv (.k (.d (.i .i64 0))), none, 0⟩]) (
.block 0 (.loop ⟨[0, 1, 5], [], [], [], [], true⟩ (.seq (.seq (.region false [
  ⟨(some 11), .mv (.t 5), none, 0⟩,
  ⟨(some 12), .mv (.t 0), none, 0⟩,
  ⟨(some 13), .len 0 (.t 12), none, 0⟩,
  ⟨(some 14), .bin .lss (.t 11) (.t 13), none, 0⟩]) (
.cond (.t 14) (
.skip) (.exit 0))) (
.seq (.block 1 (.seq (.region true [
  ⟨(some 17), .mv (.t 0), none, 0⟩,
  ⟨(some 18), .mv (.t 5), none, 0⟩,
  ⟨(some 19), .ia 1 (.t 17) (.t 18), none, 3⟩,
  ⟨(some 20), .ld false 1 (.t 19), none, 7⟩,
  ⟨(some 21), .mv (.t 1), none, 0⟩,
  ⟨(some 22), .mv (.t 5), none, 0⟩,
  ⟨(some 23), .ia 1 (.t 21) (.t 22), none, 48⟩,
  ⟨(some 24), .ld false 1 (.t 23), none, 112⟩,
  ⟨(some 25), .bin .neq (.t 20) (.t 24), none, 255⟩]) (
.cond (.t 25) (
.seq (.region false [
  ⟨(some 4), .mv (.k (.d (.b false))), none, 0⟩]) (
.ret)) (.skip)))) (
.region false [
  ⟨(some 15), .mv (.t 5), none, 0⟩,
  ⟨(some 16), .bin .add (.t 15) (.k (.d (.i .i64 1))), none, 0⟩,
  ⟨(some 5), .mv (.t 16), none, 0⟩])))))) (
.seq (.region false [
  ⟨(some 4), .mv (.k (.d (.b true))), none, 0⟩]) (
.ret)))), [.slot 4]⟩
def n249 : Notes := { anns := [⟨[0, 1, 5], [], [], [], [], true⟩], frz := [], rgs := [] }

/-- lemmata/lines.ends -/
def c250 : CFn := ⟨.seq (.region false [
  ⟨(some 1), .box (.t 0), none, 0⟩,
  ⟨(some 2), .mv (.k (.d .nf)), none, 0⟩]) (
.seq (.region false [
  ⟨(some 3), .mkf 254 [] [(.t 1)] true, none, 0⟩,
  ⟨(some 2), .mv (.t 3), none, 0⟩]) (
.ret)), [.slot 2]⟩
def n250 : Notes := { anns := [], frz := [0, 0, 1], rgs := [] }

/-- sort.Search -/
def c251 : CFn := ⟨.seq (.region false [
  ⟨(some 4), .mv (.k (.d (.i .i64 0))), none, 0⟩]) (
.seq (.region false [
  ⟨(some 8), .mv (.t 0), none, 0⟩,
  ⟨(some 5), .mv (.k (.d (.i .i64 0))), none, 0⟩,
  ⟨(some 6), .mv (.t 8), none, 0⟩]) (
.seq (.block 0 (.loop ⟨[1, 5, 6], [], [], [], [], true⟩ (.seq (.seq (.region false [
  ⟨(some 9), .mv (.t 5), none, 0⟩,
  ⟨(some 10), .mv (.t 6), none, 0⟩,
  ⟨(some 11), .bin .lss (.t 9) (.t 10), none, 0⟩]) (
.cond (.t 11) (
.skip) (.exit 0))) (
.block 1 (.seq (.region false [
  ⟨(some 12), .mv (.t 5), none, 0⟩,
  ⟨(some 13), .mv (.t 6), none, 0⟩,
  ⟨(some 14), .bin .add (.t 12) (.t 13), none, 0⟩,
  ⟨(some 15), .conv .u64 (.t 14), none, 0⟩,
  ⟨(some 16), .bin .shr (.t 15) (.k (.d (.i .u64 1))), none, 0⟩,
  ⟨(some 17), .conv .i64 (.t 16), none, 0⟩,
  ⟨(some 7), .mv (.t 17), none, 0⟩]) (
.seq (.region false [
  ⟨(some 18), .mv (.t 1), none, 0⟩,
  ⟨(some 19), .mv (.t 7), none, 0⟩,
  ⟨(some 20), .callv (.t 18) [(.t 19)] 4 true, none, 0⟩,
  ⟨(some 21), .un .not (.t 20), none, 0⟩]) (
.cond (.t 21) (
.region false [
  ⟨(some 22), .mv (.t 7), none, 0⟩,
  ⟨(some 23), .bin .add (.t 22) (.k (.d (.i .i64 1))), none, 0⟩,
  ⟨(some 5), .mv (.t 23), none, 0⟩]) (.region false [
  ⟨(some 24), .mv (.t 7), none, 0⟩,
  ⟨(some 6), .mv (.t 24), none, 0⟩])))))))) (
.seq (.region false [
  ⟨(some 25), .mv (.t 5), none, 0⟩,
  ⟨(some 4), .mv (.t 25), none, 0⟩]) (
.ret)))), [.slot 4]⟩
def n251 : Notes := { anns := [⟨[1, 5, 6], [], [], [], [], true⟩], frz := [], rgs := [] }

/-- lemmata/lines.Pos$1 -/
def c252 : CFn := ⟨.seq (.region false [
  ⟨(some 4), .mv (.k (.d (.b false))), none, 0⟩]) (
.seq (.region true [
  ⟨(some 5), .ld false 1 (.t 1), none, 0⟩,
  ⟨(some 6), .mv (.t 0), none, 0⟩,
  ⟨(some 7), .ia 1 (.t 5) (.t 6), none, 3⟩,
  ⟨(some 8), .ld false 1 (.t 7), none, 7⟩,
  ⟨(some 9), .ld false 1 (.t 2), none, 0⟩,
  ⟨(some 10), .bin .gtr (.t 8) (.t 9), none, 31⟩,
  ⟨(some 4), .mv (.t 10), none, 63⟩]) (
.ret)), [.slot 4]⟩
def n252 : Notes := { anns := [], frz := [], rgs := [] }

/-- lemmata/lines.Edit$1 -/
def c253 : CFn := ⟨.seq (.seq (.region false [
  ⟨(some 4), .fa 2 (.t 0), none, 0⟩,
  ⟨(some 5), .ld false 1 (.t 4), none, 0⟩,
  ⟨(some 6), .call 250 [(.t 5)] 4 true, none, 0⟩]) (
.block 0 (.range [(2, 0)] (.t 6) 10253 [0, 1, 2] 4))) (
.region false [
  ⟨none, .st 1 (.t 1) (.k (.d (.b true))), none, 0⟩]), []⟩
def n253 : Notes := { anns := [], frz := [], rgs := [(10253, [0, 1, 2], 4, [(2, 0)])] }

/-- lemmata/lines.ends$1 -/
def c254 : CFn := ⟨.seq (.region false [
  ⟨(some 4), .ld false 1 (.t 1), none, 0⟩,
  ⟨(some 5), .len 1 (.t 4), none, 0⟩,
  ⟨(some 6), .mv (.k (.d (.i .i64 0))), none, 0⟩]) (
.block 0 (.loop ⟨[0, 1, 5, 6], [], [], [], [], true⟩ (.seq (.region false [
  ⟨(some 7), .bin .lss (.t 6) (.t 5), none, 0⟩]) (
.seq (.cond (.t 7) (
.skip) (.exit 0)) (
.seq (.block 1 (.seq (.region false [
  ⟨(some 8), .mv (.t 6), none, 0⟩,
  ⟨(some 3), .mv (.t 8), none, 0⟩]) (
.seq (.region false [
  ⟨(some 9), .ld false 1 (.t 1), none, 0⟩,
  ⟨(some 10), .mv (.t 3), none, 0⟩,
  ⟨(some 11), .ixs (.t 9) (.t 10), none, 0⟩,
  ⟨(some 12), .bin .eql (.t 11) (.k (.d (.i .u8 10))), none, 0⟩,
  ⟨(some 13), .mv (.t 12), none, 0⟩,
  ⟨(some 14), .mv (.t 0), (some (13, true)), 0⟩,
  ⟨(some 15), .mv (.t 3), (some (13, true)), 0⟩,
  ⟨(some 16), .bin .add (.t 15) (.k (.d (.i .i64 1))), (some (13, true)), 0⟩,
  ⟨(some 17), .callv (.t 14) [(.t 16)] 4 true, (some (13, true)), 0⟩,
  ⟨(some 18), .un .not (.t 17), (some (13, true)), 0⟩,
  ⟨(some 19), .pick (.t 13) (.t 18) (.k (.d (.b false))), none, 0⟩]) (
.cond (.t 19) (
.ret) (.skip))))) (
.region false [
  ⟨(some 20), .bin .add (.t 6) (.k (.d (.i .i64 1))), none, 0⟩,
  ⟨(some 6), .mv (.t 20), none, 0⟩])))))), []⟩
def n254 : Notes := { anns := [⟨[0, 1, 5, 6], [], [], [], [], true⟩], frz := [], rgs := [] }

/-- lemmata/lines.Starts round -/
def a10246 : CCode := .region false [
  ⟨(some 4), .mv (.t 8), none, 0⟩]
def b10246 : CCode := .block 1 (.region false [
  ⟨(some 9), .ld false 1 (.t 3), none, 0⟩,
  ⟨(some 10), .mv (.t 4), none, 0⟩,
  ⟨(some 11), .bsl 1 1 [(.i .i64 0)] [(0, (.t 10))], none, 0⟩,
  ⟨(some 12), .app 1 8 (.t 9) (.t 11), none, 0⟩,
  ⟨none, .st 1 (.t 3) (.t 12), none, 0⟩])
def n10246 : Notes := { anns := [], frz := [], rgs := [] }

/-- lemmata/lines.Edit$1 round -/
def a10253 : CCode := .region false [
  ⟨(some 3), .mv (.t 7), none, 0⟩]
def b10253 : CCode := .block 1 (.seq (.region false [
  ⟨(some 8), .ld false 1 (.t 1), none, 0⟩,
  ⟨(some 9), .un .not (.t 8), none, 0⟩]) (
.cond (.t 9) (
.region false [
  ⟨(some 10), .ld false 1 (.t 2), none, 0⟩,
  ⟨(some 11), .fa 0 (.t 0), none, 0⟩,
  ⟨(some 12), .ld false 1 (.t 11), none, 0⟩,
  ⟨(some 13), .mv (.t 3), none, 0⟩,
  ⟨(some 14), .bin .add (.t 12) (.t 13), none, 0⟩,
  ⟨(some 15), .bsl 1 1 [(.i .i64 0)] [(0, (.t 14))], none, 0⟩,
  ⟨(some 16), .app 1 8 (.t 10) (.t 15), none, 0⟩,
  ⟨none, .st 1 (.t 2) (.t 16), none, 0⟩]) (.skip)))
def n10253 : Notes := { anns := [], frz := [], rgs := [] }

def tT : FTree := (.node 248 (.node 244 (.node 242 (.leaf 242 (.code c242)) (.node 243 (.leaf 243 (.code c243)) (.leaf 244 (.code c244)))) (.node 246 (.node 245 (.leaf 245 (.code c245)) (.leaf 246 (.code c246))) (.node 247 (.leaf 247 (.code c247)) (.leaf 248 (.code c248))))) (.node 252 (.node 250 (.node 249 (.leaf 249 (.code c249)) (.leaf 250 (.code c250))) (.node 251 (.leaf 251 (.code c251)) (.leaf 252 (.code c252)))) (.node 254 (.node 253 (.leaf 253 (.code c253)) (.leaf 254 (.code c254))) (.node 10246 (.leaf 10246 (.round [8] [3] a10246 b10246)) (.leaf 10253 (.round [7] [0, 1, 2] a10253 b10253))))))
noncomputable def tF : Nat → Option Fn := FTree.get tT
end Ab
