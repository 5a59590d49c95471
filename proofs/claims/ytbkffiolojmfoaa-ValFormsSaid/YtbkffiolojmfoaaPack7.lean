/-
  Compiled functions: printed by a program of the workbench; the kernel checks each against the model's code.
-/
import Derived.Test.YtbkffiolojmfoaaPack4
set_option linter.unusedSimpArgs false
set_option linter.unusedVariables false
set_option linter.unusedSectionVars false
set_option linter.unnecessarySimpa false
namespace Ab

/-- lemmata/lemmatalaw1.ValAll -/
def c100 : CFn := ⟨.seq (.region false [
  ⟨(some 4), .box (.t 0), none, 0⟩,
  ⟨(some 5), .box (.t 1), none, 0⟩,
  ⟨(some 8), .mv (.k (.d (.b false))), none, 0⟩]) (
.seq (.seq (.region false [
  ⟨(some 13), .call 106 [] 0 true, none, 0⟩,
  ⟨(some 14), .un .not (.t 13), none, 0⟩]) (
.cond (.t 14) (
.seq (.region false [
  ⟨(some 8), .mv (.k (.d (.b false))), none, 0⟩]) (
.ret)) (.skip))) (
.seq (.seq (.region false [
  ⟨(some 15), .ld true 4 (.t 4), none, 0⟩,
  ⟨(some 16), .call 107 [(.t 15), (.k (.d (.i .i64 5)))] 0 true, none, 0⟩,
  ⟨(some 17), .un .not (.t 16), none, 0⟩,
  ⟨(some 18), .mv (.t 17), none, 0⟩,
  ⟨(some 19), .ld true 4 (.t 5), (some (18, false)), 0⟩,
  ⟨(some 20), .call 107 [(.t 19), (.k (.d (.i .i64 5)))] 0 true, (some (18, false)), 0⟩,
  ⟨(some 21), .un .not (.t 20), (some (18, false)), 0⟩,
  ⟨(some 22), .pick (.t 18) (.k (.d (.b true))) (.t 21), none, 0⟩,
  ⟨(some 23), .mv (.t 22), none, 0⟩,
  ⟨(some 24), .mv (.t 2), (some (23, false)), 0⟩,
  ⟨(some 25), .len 0 (.t 24), (some (23, false)), 0⟩,
  ⟨(some 26), .bin .gtr (.t 25) (.k (.d (.i .i64 60))), (some (23, false)), 0⟩,
  ⟨(some 27), .pick (.t 23) (.k (.d (.b true))) (.t 26), none, 0⟩,
  ⟨(some 28), .mv (.t 27), none, 0⟩,
  ⟨(some 29), .mv (.t 3), (some (28, false)), 0⟩,
  ⟨(some 30), .len 0 (.t 29), (some (28, false)), 0⟩,
  ⟨(some 31), .bin .gtr (.t 30) (.k (.d (.i .i64 60))), (some (28, false)), 0⟩,
  ⟨(some 32), .pick (.t 28) (.k (.d (.b true))) (.t 31), none, 0⟩]) (
.cond (.t 32) (
.seq (.region false [
  ⟨(some 8), .mv (.k (.d (.b true))), none, 0⟩]) (
.ret)) (.skip))) (
.seq (.region true [
  ⟨(some 33), .ld true 4 (.t 4), none, 0⟩,
  ⟨(some 34), .ld true 4 (.t 5), none, 0⟩,
  ⟨(some 35), .mv (.t 2), none, 0⟩,
  ⟨(some 36), .call 108 [(.t 35)] 4 true, none, 4⟩,
  ⟨(some 37), .call 109 [(.t 36), (.k (.d (.i .i64 3)))] 4 true, none, 12⟩,
  ⟨(some 38), .mv (.t 3), none, 0⟩,
  ⟨(some 39), .call 108 [(.t 38)] 4 true, none, 60⟩,
  ⟨(some 40), .call 109 [(.t 39), (.k (.d (.i .i64 3)))] 4 true, none, 124⟩,
  ⟨(some 41), .bsl 4 4 [(.i .i64 0), (.i .i64 0), (.s []), (.l 4 [])] [(0, (.t 33)), (1, (.t 34)), (2, (.t 37)), (3, (.t 40))], none, 255⟩,
  ⟨(some 9), .mv (.t 41), none, 511⟩]) (
.seq (.seq (.region false [
  ⟨(some 10), .mv (.k (.d (.i .i64 0))), none, 0⟩]) (
.block 0 (.loop ⟨[9, 10], [], [], [], [], true⟩ (.seq (.seq (.region false [
  ⟨(some 42), .mv (.t 10), none, 0⟩,
  ⟨(some 43), .bin .lss (.t 42) (.k (.d (.i .i64 4))), none, 0⟩]) (
.cond (.t 43) (
.skip) (.exit 0))) (
.seq (.block 1 (.seq (.region false [
  ⟨(some 46), .mv (.t 9), none, 0⟩,
  ⟨(some 47), .mv (.t 10), none, 0⟩,
  ⟨(some 48), .ia 4 (.t 46) (.t 47), none, 0⟩,
  ⟨(some 49), .ld true 4 (.t 48), none, 0⟩,
  ⟨(some 50), .call 110 [(.t 49)] 0 true, none, 0⟩,
  ⟨(some 11), .mv (.t 50), none, 0⟩]) (
.seq (.seq (.region true [
  ⟨(some 51), .mv (.t 9), none, 0⟩,
  ⟨(some 52), .mv (.t 10), none, 0⟩,
  ⟨(some 53), .ia 4 (.t 51) (.t 52), none, 3⟩,
  ⟨(some 54), .ld true 4 (.t 53), none, 7⟩,
  ⟨(some 55), .call 111 [(.t 54)] 0 true, none, 15⟩,
  ⟨(some 56), .mv (.t 11), none, 0⟩,
  ⟨(some 57), .eqb true (.t 55) (.t 56), none, 63⟩,
  ⟨(some 58), .mv (.t 57), none, 127⟩,
  ⟨(some 59), .mv (.t 9), (some (58, false)), 255⟩,
  ⟨(some 60), .mv (.t 10), (some (58, false)), 255⟩,
  ⟨(some 61), .ia 4 (.t 59) (.t 60), (some (58, false)), 1023⟩,
  ⟨(some 62), .ld true 4 (.t 61), (some (58, false)), 2047⟩,
  ⟨(some 63), .call 112 [(.t 62)] 0 true, (some (58, false)), 4095⟩,
  ⟨(some 64), .mv (.t 9), (some (58, false)), 255⟩,
  ⟨(some 65), .mv (.t 10), (some (58, false)), 255⟩,
  ⟨(some 66), .ia 4 (.t 64) (.t 65), (some (58, false)), 24831⟩,
  ⟨(some 67), .ld true 4 (.t 66), (some (58, false)), 57599⟩,
  ⟨(some 68), .call 113 [(.t 67)] 0 true, (some (58, false)), 131071⟩,
  ⟨(some 69), .bin .neq (.t 63) (.t 68), (some (58, false)), 262143⟩,
  ⟨(some 70), .pick (.t 58) (.k (.d (.b true))) (.t 69), none, 524287⟩]) (
.cond (.t 70) (
.seq (.region false [
  ⟨(some 8), .mv (.k (.d (.b false))), none, 0⟩]) (
.ret)) (.skip))) (
.seq (.region false [
  ⟨(some 12), .mv (.k (.d (.i .i64 0))), none, 0⟩]) (
.block 2 (.loop ⟨[9, 10, 11, 12], [], [], [], [], true⟩ (.seq (.seq (.region false [
  ⟨(some 71), .mv (.t 12), none, 0⟩,
  ⟨(some 72), .bin .lss (.t 71) (.k (.d (.i .i64 4))), none, 0⟩]) (
.cond (.t 72) (
.skip) (.exit 2))) (
.seq (.block 3 (.seq (.region true [
  ⟨(some 75), .mv (.t 11), none, 0⟩,
  ⟨(some 76), .mv (.t 75), none, 1⟩,
  ⟨(some 77), .mv (.t 9), (some (76, true)), 3⟩,
  ⟨(some 78), .mv (.t 12), (some (76, true)), 3⟩,
  ⟨(some 79), .ia 4 (.t 77) (.t 78), (some (76, true)), 15⟩,
  ⟨(some 80), .ld true 4 (.t 79), (some (76, true)), 31⟩,
  ⟨(some 81), .call 110 [(.t 80)] 0 true, (some (76, true)), 63⟩,
  ⟨(some 82), .pick (.t 76) (.t 81) (.k (.d (.b false))), none, 127⟩,
  ⟨(some 83), .mv (.t 82), none, 255⟩,
  ⟨(some 84), .mv (.t 9), (some (83, true)), 511⟩,
  ⟨(some 85), .mv (.t 10), (some (83, true)), 511⟩,
  ⟨(some 86), .ia 4 (.t 84) (.t 85), (some (83, true)), 2047⟩,
  ⟨(some 87), .ld true 4 (.t 86), (some (83, true)), 4095⟩,
  ⟨(some 88), .mv (.t 9), (some (83, true)), 511⟩,
  ⟨(some 89), .mv (.t 12), (some (83, true)), 511⟩,
  ⟨(some 90), .ia 4 (.t 88) (.t 89), (some (83, true)), 25087⟩,
  ⟨(some 91), .ld true 4 (.t 90), (some (83, true)), 57855⟩,
  ⟨(some 92), .call 114 [(.t 87), (.t 91)] 0 true, (some (83, true)), 131071⟩,
  ⟨(some 93), .mv (.t 9), (some (83, true)), 511⟩,
  ⟨(some 94), .mv (.t 10), (some (83, true)), 511⟩,
  ⟨(some 95), .ia 4 (.t 93) (.t 94), (some (83, true)), 786943⟩,
  ⟨(some 96), .ld true 4 (.t 95), (some (83, true)), 1835519⟩,
  ⟨(some 97), .mv (.t 9), (some (83, true)), 511⟩,
  ⟨(some 98), .mv (.t 12), (some (83, true)), 511⟩,
  ⟨(some 99), .ia 4 (.t 97) (.t 98), (some (83, true)), 12583423⟩,
  ⟨(some 100), .ld true 4 (.t 99), (some (83, true)), 29360639⟩,
  ⟨(some 101), .call 115 [(.t 96), (.t 100)] 0 true, (some (83, true)), 67108863⟩,
  ⟨(some 102), .bin .neq (.t 92) (.t 101), (some (83, true)), 134217727⟩,
  ⟨(some 103), .pick (.t 83) (.t 102) (.k (.d (.b false))), none, 268435455⟩]) (
.cond (.t 103) (
.seq (.region false [
  ⟨(some 8), .mv (.k (.d (.b false))), none, 0⟩]) (
.ret)) (.skip)))) (
.region false [
  ⟨(some 73), .mv (.t 12), none, 0⟩,
  ⟨(some 74), .bin .add (.t 73) (.k (.d (.i .i64 1))), none, 0⟩,
  ⟨(some 12), .mv (.t 74), none, 0⟩]))))))))) (
.region false [
  ⟨(some 44), .mv (.t 10), none, 0⟩,
  ⟨(some 45), .bin .add (.t 44) (.k (.d (.i .i64 1))), none, 0⟩,
  ⟨(some 10), .mv (.t 45), none, 0⟩])))))) (
.seq (.region false [
  ⟨(some 8), .mv (.k (.d (.b true))), none, 0⟩]) (
.ret)))))), [.slot 8]⟩
def n100 : Notes := ⟨[⟨[9, 10], [], [], [], [], true⟩, ⟨[9, 10, 11, 12], [], [], [], [], true⟩], []⟩

/-- lemmata/lemmatalaw1.ValRow -/
def c101 : CFn := ⟨.seq (.region false [
  ⟨(some 4), .mv (.k (.d (.b false))), none, 0⟩]) (
.seq (.seq (.region false [
  ⟨(some 16), .call 106 [] 0 true, none, 0⟩,
  ⟨(some 17), .un .not (.t 16), none, 0⟩]) (
.cond (.t 17) (
.seq (.region false [
  ⟨(some 4), .mv (.k (.d (.b false))), none, 0⟩]) (
.ret)) (.skip))) (
.seq (.seq (.region false [
  ⟨(some 18), .mv (.t 0), none, 0⟩,
  ⟨(some 19), .len 0 (.t 18), none, 0⟩,
  ⟨(some 20), .bin .gtr (.t 19) (.k (.d (.i .i64 10))), none, 0⟩,
  ⟨(some 21), .mv (.t 20), none, 0⟩,
  ⟨(some 22), .mv (.t 1), (some (21, false)), 0⟩,
  ⟨(some 23), .len 1 (.t 22), (some (21, false)), 0⟩,
  ⟨(some 24), .bin .gtr (.t 23) (.k (.d (.i .i64 20))), (some (21, false)), 0⟩,
  ⟨(some 25), .pick (.t 21) (.k (.d (.b true))) (.t 24), none, 0⟩]) (
.cond (.t 25) (
.seq (.region false [
  ⟨(some 4), .mv (.k (.d (.b true))), none, 0⟩]) (
.ret)) (.skip))) (
.seq (.region false [
  ⟨(some 5), .mv (.k (.nil 4)), none, 0⟩,
  ⟨(some 6), .mv (.k (.nil 4)), none, 0⟩,
  ⟨(some 7), .mv (.k (.nil 4)), none, 0⟩]) (
.seq (.seq (.region false [
  ⟨(some 8), .mv (.k (.d (.i .i64 0))), none, 0⟩]) (
.block 0 (.loop ⟨[0, 1, 6, 7, 8], [], [], [6, 7], [], true⟩ (.seq (.seq (.region false [
  ⟨(some 26), .mv (.t 8), none, 0⟩,
  ⟨(some 27), .mv (.t 0), none, 0⟩,
  ⟨(some 28), .len 0 (.t 27), none, 0⟩,
  ⟨(some 29), .bin .lss (.t 26) (.t 28), none, 0⟩]) (
.cond (.t 29) (
.skip) (.exit 0))) (
.seq (.block 1 (.seq (.seq (.region false [
  ⟨(some 32), .mv (.t 0), none, 0⟩,
  ⟨(some 33), .mv (.t 8), none, 0⟩,
  ⟨(some 34), .ia 1 (.t 32) (.t 33), none, 0⟩,
  ⟨(some 35), .ld false 1 (.t 34), none, 0⟩,
  ⟨(some 36), .len 0 (.t 35), none, 0⟩,
  ⟨(some 37), .bin .gtr (.t 36) (.k (.d (.i .i64 20))), none, 0⟩]) (
.cond (.t 37) (
.seq (.region false [
  ⟨(some 4), .mv (.k (.d (.b true))), none, 0⟩]) (
.ret)) (.skip))) (
.seq (.region false [
  ⟨(some 38), .mv (.t 0), none, 0⟩,
  ⟨(some 39), .mv (.t 8), none, 0⟩,
  ⟨(some 40), .ia 1 (.t 38) (.t 39), none, 0⟩,
  ⟨(some 41), .ld false 1 (.t 40), none, 0⟩,
  ⟨(some 42), .call 108 [(.t 41)] 4 true, none, 0⟩,
  ⟨(some 43), .call 109 [(.t 42), (.k (.d (.i .i64 2)))] 4 true, none, 0⟩,
  ⟨(some 9), .zero (.agg [(.d (.i .i64 0)), (.d (.i .i64 0)), (.d (.s [])), (.nil 4)]), none, 0⟩,
  ⟨none, .st 4 (.t 9) (.t 43), none, 0⟩]) (
.seq (.region true [
  ⟨(some 44), .mv (.t 6), none, 0⟩,
  ⟨(some 45), .ld true 4 (.t 9), none, 0⟩,
  ⟨(some 46), .call 116 [(.t 44), (.t 45)] 0 true, none, 3⟩,
  ⟨(some 47), .mv (.t 6), none, 0⟩,
  ⟨(some 48), .ld true 4 (.t 9), none, 0⟩,
  ⟨(some 49), .call 117 [(.t 47), (.t 48)] 0 true, none, 31⟩,
  ⟨(some 5), .mv (.t 46), none, 63⟩,
  ⟨(some 6), .mv (.t 49), none, 127⟩]) (
.seq (.seq (.region false [
  ⟨(some 50), .mv (.t 5), none, 0⟩,
  ⟨(some 51), .mv (.t 6), none, 0⟩,
  ⟨(some 52), .call 118 [(.t 50), (.t 51)] 0 true, none, 0⟩,
  ⟨(some 53), .un .not (.t 52), none, 0⟩]) (
.cond (.t 53) (
.seq (.region false [
  ⟨(some 4), .mv (.k (.d (.b false))), none, 0⟩]) (
.ret)) (.skip))) (
.seq (.region false [
  ⟨(some 54), .fa 0 (.t 9), none, 0⟩,
  ⟨(some 55), .ld false 1 (.t 54), none, 0⟩,
  ⟨(some 56), .bin .eql (.t 55) (.k (.d (.i .i64 6))), none, 0⟩,
  ⟨(some 57), .mv (.t 56), none, 0⟩,
  ⟨(some 58), .fa 3 (.t 9), (some (57, true)), 0⟩,
  ⟨(some 59), .ld false 1 (.t 58), (some (57, true)), 0⟩,
  ⟨(some 60), .len 0 (.t 59), (some (57, true)), 0⟩,
  ⟨(some 61), .mv (.t 7), (some (57, true)), 0⟩,
  ⟨(some 62), .len 0 (.t 61), (some (57, true)), 0⟩,
  ⟨(some 63), .bin .gtr (.t 60) (.t 62), (some (57, true)), 0⟩,
  ⟨(some 64), .pick (.t 57) (.t 63) (.k (.d (.b false))), none, 0⟩]) (
.cond (.t 64) (
.region false [
  ⟨(some 65), .fa 3 (.t 9), none, 0⟩,
  ⟨(some 66), .ld false 1 (.t 65), none, 0⟩,
  ⟨(some 7), .mv (.t 66), none, 0⟩]) (.skip)))))))) (
.region false [
  ⟨(some 30), .mv (.t 8), none, 0⟩,
  ⟨(some 31), .bin .add (.t 30) (.k (.d (.i .i64 1))), none, 0⟩,
  ⟨(some 8), .mv (.t 31), none, 0⟩])))))) (
.seq (.region false [
  ⟨(some 67), .mv (.t 1), none, 0⟩,
  ⟨(some 68), .bsl 1 5 [(.s [])] [(0, (.t 67)), (1, (.k (.d (.s [97])))), (2, (.k (.d (.s [98])))), (3, (.k (.d (.s [98, 98])))), (4, (.k (.d (.s []))))], none, 0⟩,
  ⟨(some 10), .mv (.t 68), none, 0⟩]) (
.seq (.seq (.region false [
  ⟨(some 11), .mv (.k (.d (.i .i64 0))), none, 0⟩]) (
.block 2 (.loop ⟨[7, 10, 11], [], [], [], [], true⟩ (.seq (.seq (.region false [
  ⟨(some 69), .mv (.t 11), none, 0⟩,
  ⟨(some 70), .mv (.t 10), none, 0⟩,
  ⟨(some 71), .len 0 (.t 70), none, 0⟩,
  ⟨(some 72), .bin .lss (.t 69) (.t 71), none, 0⟩]) (
.cond (.t 72) (
.skip) (.exit 2))) (
.seq (.block 3 (.seq (.region false [
  ⟨(some 76), .mv (.t 7), none, 0⟩,
  ⟨(some 77), .mv (.t 10), none, 0⟩,
  ⟨(some 78), .mv (.t 11), none, 0⟩,
  ⟨(some 79), .ia 1 (.t 77) (.t 78), none, 0⟩,
  ⟨(some 80), .ld false 1 (.t 79), none, 0⟩,
  ⟨(some 81), .call 119 [(.t 76), (.t 80)] 0 true, none, 0⟩,
  ⟨(some 75), .mv (.t 81), none, 0⟩,
  ⟨(some 82), .ext (.t 75) 0, none, 0⟩,
  ⟨(some 83), .ext (.t 75) 1, none, 0⟩,
  ⟨(some 12), .mv (.t 82), none, 0⟩,
  ⟨(some 13), .mv (.t 83), none, 0⟩]) (
.seq (.region false [
  ⟨(some 85), .mv (.t 7), none, 0⟩,
  ⟨(some 86), .mv (.t 10), none, 0⟩,
  ⟨(some 87), .mv (.t 11), none, 0⟩,
  ⟨(some 88), .ia 1 (.t 86) (.t 87), none, 0⟩,
  ⟨(some 89), .ld false 1 (.t 88), none, 0⟩,
  ⟨(some 90), .call 120 [(.t 85), (.t 89)] 0 true, none, 0⟩,
  ⟨(some 84), .mv (.t 90), none, 0⟩,
  ⟨(some 91), .ext (.t 84) 0, none, 0⟩,
  ⟨(some 92), .ext (.t 84) 1, none, 0⟩,
  ⟨(some 14), .mv (.t 91), none, 0⟩,
  ⟨(some 15), .mv (.t 92), none, 0⟩]) (
.seq (.region false [
  ⟨(some 93), .mv (.t 12), none, 0⟩,
  ⟨(some 94), .mv (.t 14), none, 0⟩,
  ⟨(some 95), .bin .neq (.t 93) (.t 94), none, 0⟩,
  ⟨(some 96), .mv (.t 95), none, 0⟩,
  ⟨(some 97), .mv (.t 13), (some (96, false)), 0⟩,
  ⟨(some 98), .mv (.t 15), (some (96, false)), 0⟩,
  ⟨(some 99), .eqb true (.t 97) (.t 98), (some (96, false)), 0⟩,
  ⟨(some 100), .pick (.t 96) (.k (.d (.b true))) (.t 99), none, 0⟩]) (
.cond (.t 100) (
.seq (.region false [
  ⟨(some 4), .mv (.k (.d (.b false))), none, 0⟩]) (
.ret)) (.skip)))))) (
.region false [
  ⟨(some 73), .mv (.t 11), none, 0⟩,
  ⟨(some 74), .bin .add (.t 73) (.k (.d (.i .i64 1))), none, 0⟩,
  ⟨(some 11), .mv (.t 74), none, 0⟩])))))) (
.seq (.region false [
  ⟨(some 4), .mv (.k (.d (.b true))), none, 0⟩]) (
.ret)))))))), [.slot 4]⟩
def n101 : Notes := ⟨[⟨[0, 1, 6, 7, 8], [], [], [6, 7], [], true⟩, ⟨[7, 10, 11], [], [], [], [], true⟩], []⟩

/-- lemmata/lemmatalaw1.ValOrder -/
def c102 : CFn := ⟨.seq (.region false [
  ⟨(some 6), .mv (.k (.d (.b false))), none, 0⟩]) (
.seq (.seq (.region false [
  ⟨(some 13), .call 106 [] 0 true, none, 0⟩,
  ⟨(some 14), .un .not (.t 13), none, 0⟩]) (
.cond (.t 14) (
.seq (.region false [
  ⟨(some 6), .mv (.k (.d (.b false))), none, 0⟩]) (
.ret)) (.skip))) (
.seq (.seq (.region false [
  ⟨(some 15), .mv (.t 0), none, 0⟩,
  ⟨(some 16), .len 0 (.t 15), none, 0⟩,
  ⟨(some 17), .bin .gtr (.t 16) (.k (.d (.i .i64 40))), none, 0⟩,
  ⟨(some 18), .mv (.t 17), none, 0⟩,
  ⟨(some 19), .mv (.t 1), (some (18, false)), 0⟩,
  ⟨(some 20), .len 0 (.t 19), (some (18, false)), 0⟩,
  ⟨(some 21), .bin .gtr (.t 20) (.k (.d (.i .i64 40))), (some (18, false)), 0⟩,
  ⟨(some 22), .pick (.t 18) (.k (.d (.b true))) (.t 21), none, 0⟩,
  ⟨(some 23), .mv (.t 22), none, 0⟩,
  ⟨(some 24), .mv (.t 2), (some (23, false)), 0⟩,
  ⟨(some 25), .len 0 (.t 24), (some (23, false)), 0⟩,
  ⟨(some 26), .bin .gtr (.t 25) (.k (.d (.i .i64 40))), (some (23, false)), 0⟩,
  ⟨(some 27), .pick (.t 23) (.k (.d (.b true))) (.t 26), none, 0⟩]) (
.cond (.t 27) (
.seq (.region false [
  ⟨(some 6), .mv (.k (.d (.b true))), none, 0⟩]) (
.ret)) (.skip))) (
.seq (.region false [
  ⟨(some 28), .mv (.t 0), none, 0⟩,
  ⟨(some 29), .call 108 [(.t 28)] 4 true, none, 0⟩,
  ⟨(some 30), .call 109 [(.t 29), (.k (.d (.i .i64 3)))] 4 true, none, 0⟩,
  ⟨(some 31), .mv (.t 1), none, 0⟩,
  ⟨(some 32), .call 108 [(.t 31)] 4 true, none, 0⟩,
  ⟨(some 33), .call 109 [(.t 32), (.k (.d (.i .i64 3)))] 4 true, none, 0⟩,
  ⟨(some 34), .mv (.t 2), none, 0⟩,
  ⟨(some 35), .call 108 [(.t 34)] 4 true, none, 0⟩,
  ⟨(some 36), .call 109 [(.t 35), (.k (.d (.i .i64 3)))] 4 true, none, 0⟩,
  ⟨(some 7), .zero (.agg [(.d (.i .i64 0)), (.d (.i .i64 0)), (.d (.s [])), (.nil 4)]), none, 0⟩,
  ⟨(some 8), .zero (.agg [(.d (.i .i64 0)), (.d (.i .i64 0)), (.d (.s [])), (.nil 4)]), none, 0⟩,
  ⟨(some 9), .zero (.agg [(.d (.i .i64 0)), (.d (.i .i64 0)), (.d (.s [])), (.nil 4)]), none, 0⟩,
  ⟨none, .st 4 (.t 7) (.t 30), none, 0⟩,
  ⟨none, .st 4 (.t 8) (.t 33), none, 0⟩,
  ⟨none, .st 4 (.t 9) (.t 36), none, 0⟩]) (
.seq (.region true [
  ⟨(some 37), .ld true 4 (.t 7), none, 0⟩,
  ⟨(some 38), .ld true 4 (.t 8), none, 0⟩,
  ⟨(some 39), .call 114 [(.t 37), (.t 38)] 0 true, none, 3⟩,
  ⟨(some 40), .ld true 4 (.t 8), none, 0⟩,
  ⟨(some 41), .ld true 4 (.t 9), none, 0⟩,
  ⟨(some 42), .call 114 [(.t 40), (.t 41)] 0 true, none, 31⟩,
  ⟨(some 43), .ld true 4 (.t 7), none, 0⟩,
  ⟨(some 44), .ld true 4 (.t 9), none, 0⟩,
  ⟨(some 45), .call 114 [(.t 43), (.t 44)] 0 true, none, 255⟩,
  ⟨(some 10), .mv (.t 39), none, 511⟩,
  ⟨(some 11), .mv (.t 42), none, 1023⟩,
  ⟨(some 12), .mv (.t 45), none, 2047⟩]) (
.seq (.seq (.region false [
  ⟨(some 46), .mv (.t 10), none, 0⟩,
  ⟨(some 47), .ld true 4 (.t 8), none, 0⟩,
  ⟨(some 48), .ld true 4 (.t 7), none, 0⟩,
  ⟨(some 49), .call 114 [(.t 47), (.t 48)] 0 true, none, 0⟩,
  ⟨(some 50), .un .neg (.t 49), none, 0⟩,
  ⟨(some 51), .bin .neq (.t 46) (.t 50), none, 0⟩,
  ⟨(some 52), .mv (.t 51), none, 0⟩,
  ⟨(some 53), .ld true 4 (.t 7), (some (52, false)), 0⟩,
  ⟨(some 54), .ld true 4 (.t 7), (some (52, false)), 0⟩,
  ⟨(some 55), .call 114 [(.t 53), (.t 54)] 0 true, (some (52, false)), 0⟩,
  ⟨(some 56), .bin .neq (.t 55) (.k (.d (.i .i64 0))), (some (52, false)), 0⟩,
  ⟨(some 57), .pick (.t 52) (.k (.d (.b true))) (.t 56), none, 0⟩,
  ⟨(some 58), .mv (.t 57), none, 0⟩,
  ⟨(some 59), .mv (.t 10), (some (58, false)), 0⟩,
  ⟨(some 60), .bin .lss (.t 59) (.k (.d (.i .i64 (-1)))), (some (58, false)), 0⟩,
  ⟨(some 61), .pick (.t 58) (.k (.d (.b true))) (.t 60), none, 0⟩,
  ⟨(some 62), .mv (.t 61), none, 0⟩,
  ⟨(some 63), .mv (.t 10), (some (62, false)), 0⟩,
  ⟨(some 64), .bin .gtr (.t 63) (.k (.d (.i .i64 1))), (some (62, false)), 0⟩,
  ⟨(some 65), .pick (.t 62) (.k (.d (.b true))) (.t 64), none, 0⟩]) (
.cond (.t 65) (
.seq (.region false [
  ⟨(some 6), .mv (.k (.d (.b false))), none, 0⟩]) (
.ret)) (.skip))) (
.seq (.region false [
  ⟨(some 66), .mv (.t 10), none, 0⟩,
  ⟨(some 67), .bin .leq (.t 66) (.k (.d (.i .i64 0))), none, 0⟩,
  ⟨(some 68), .mv (.t 67), none, 0⟩,
  ⟨(some 69), .mv (.t 11), (some (68, true)), 0⟩,
  ⟨(some 70), .bin .leq (.t 69) (.k (.d (.i .i64 0))), (some (68, true)), 0⟩,
  ⟨(some 71), .pick (.t 68) (.t 70) (.k (.d (.b false))), none, 0⟩,
  ⟨(some 72), .mv (.t 71), none, 0⟩,
  ⟨(some 73), .mv (.t 12), (some (72, true)), 0⟩,
  ⟨(some 74), .bin .gtr (.t 73) (.k (.d (.i .i64 0))), (some (72, true)), 0⟩,
  ⟨(some 75), .pick (.t 72) (.t 74) (.k (.d (.b false))), none, 0⟩,
  ⟨(some 76), .mv (.t 75), none, 0⟩,
  ⟨(some 77), .mv (.t 10), (some (76, false)), 0⟩,
  ⟨(some 78), .bin .lss (.t 77) (.k (.d (.i .i64 0))), (some (76, false)), 0⟩,
  ⟨(some 79), .mv (.t 78), (some (76, false)), 0⟩,
  ⟨(some 80), .mv (.t 11), (some (79, true)), 0⟩,
  ⟨(some 81), .bin .leq (.t 80) (.k (.d (.i .i64 0))), (some (79, true)), 0⟩,
  ⟨(some 82), .pick (.t 79) (.t 81) (.k (.d (.b false))), (some (76, false)), 0⟩,
  ⟨(some 83), .mv (.t 82), (some (76, false)), 0⟩,
  ⟨(some 84), .mv (.t 12), (some (83, true)), 0⟩,
  ⟨(some 85), .bin .geq (.t 84) (.k (.d (.i .i64 0))), (some (83, true)), 0⟩,
  ⟨(some 86), .pick (.t 83) (.t 85) (.k (.d (.b false))), (some (76, false)), 0⟩,
  ⟨(some 87), .pick (.t 76) (.k (.d (.b true))) (.t 86), none, 0⟩,
  ⟨(some 88), .mv (.t 87), none, 0⟩,
  ⟨(some 89), .mv (.t 10), (some (88, false)), 0⟩,
  ⟨(some 90), .bin .eql (.t 89) (.k (.d (.i .i64 0))), (some (88, false)), 0⟩,
  ⟨(some 91), .mv (.t 90), (some (88, false)), 0⟩,
  ⟨(some 92), .mv (.t 11), (some (91, true)), 0⟩,
  ⟨(some 93), .bin .eql (.t 92) (.k (.d (.i .i64 0))), (some (91, true)), 0⟩,
  ⟨(some 94), .pick (.t 91) (.t 93) (.k (.d (.b false))), (some (88, false)), 0⟩,
  ⟨(some 95), .mv (.t 94), (some (88, false)), 0⟩,
  ⟨(some 96), .mv (.t 12), (some (95, true)), 0⟩,
  ⟨(some 97), .bin .neq (.t 96) (.k (.d (.i .i64 0))), (some (95, true)), 0⟩,
  ⟨(some 98), .pick (.t 95) (.t 97) (.k (.d (.b false))), (some (88, false)), 0⟩,
  ⟨(some 99), .pick (.t 88) (.k (.d (.b true))) (.t 98), none, 0⟩,
  ⟨(some 100), .un .not (.t 99), none, 0⟩,
  ⟨(some 101), .mv (.t 100), none, 0⟩,
  ⟨(some 102), .mv (.t 10), (some (101, true)), 0⟩,
  ⟨(some 103), .bin .eql (.t 102) (.k (.d (.i .i64 0))), (some (101, true)), 0⟩,
  ⟨(some 104), .ld true 4 (.t 7), (some (101, true)), 0⟩,
  ⟨(some 105), .ld true 4 (.t 8), (some (101, true)), 0⟩,
  ⟨(some 106), .call 121 [(.t 104), (.t 105)] 0 true, (some (101, true)), 0⟩,
  ⟨(some 107), .eqb false (.t 103) (.t 106), (some (101, true)), 0⟩,
  ⟨(some 108), .pick (.t 101) (.t 107) (.k (.d (.b false))), none, 0⟩,
  ⟨(some 6), .mv (.t 108), none, 0⟩]) (
.ret))))))), [.slot 6]⟩
def n102 : Notes := ⟨[], []⟩

/-- lemmata/lemmatalaw1.ValForms -/
def c103 : CFn := ⟨.seq (.region false [
  ⟨(some 0), .mv (.k (.d (.b false))), none, 0⟩]) (
.seq (.seq (.region false [
  ⟨(some 9), .call 106 [] 0 true, none, 0⟩,
  ⟨(some 10), .un .not (.t 9), none, 0⟩]) (
.cond (.t 10) (
.seq (.region false [
  ⟨(some 0), .mv (.k (.d (.b false))), none, 0⟩]) (
.ret)) (.skip))) (
.seq (.region false [
  ⟨(some 11), .build [(.d (.i .i64 0)), (.d (.i .i64 0)), (.d (.s [])), (.nil 4)] [(0, 1, (.k (.d (.i .i64 1)))), (1, 1, (.k (.d (.i .i64 1))))], none, 0⟩,
  ⟨(some 12), .build [(.d (.i .i64 0)), (.d (.i .i64 0)), (.d (.s [])), (.nil 4)] [(0, 1, (.k (.d (.i .i64 3)))), (2, 1, (.k (.d (.s [97]))))], none, 0⟩,
  ⟨(some 13), .build [(.d (.i .i64 0)), (.d (.i .i64 0)), (.d (.s [])), (.nil 4)] [(0, 1, (.k (.d (.i .i64 3)))), (2, 1, (.k (.d (.s [98]))))], none, 0⟩,
  ⟨(some 1), .zero (.agg [(.d (.i .i64 0)), (.d (.i .i64 0)), (.d (.s [])), (.nil 4)]), none, 0⟩,
  ⟨(some 2), .zero (.agg [(.d (.i .i64 0)), (.d (.i .i64 0)), (.d (.s [])), (.nil 4)]), none, 0⟩,
  ⟨(some 3), .zero (.agg [(.d (.i .i64 0)), (.d (.i .i64 0)), (.d (.s [])), (.nil 4)]), none, 0⟩,
  ⟨none, .st 4 (.t 1) (.t 11), none, 0⟩,
  ⟨none, .st 4 (.t 2) (.t 12), none, 0⟩,
  ⟨none, .st 4 (.t 3) (.t 13), none, 0⟩]) (
.seq (.region false [
  ⟨(some 14), .ld true 4 (.t 2), none, 0⟩,
  ⟨(some 15), .ld true 4 (.t 1), none, 0⟩,
  ⟨(some 16), .call 122 [(.t 14), (.t 15)] 0 true, none, 0⟩,
  ⟨(some 4), .zero (.agg [(.d (.i .i64 0)), (.d (.i .i64 0)), (.d (.s [])), (.nil 4)]), none, 0⟩,
  ⟨none, .st 4 (.t 4) (.t 16), none, 0⟩]) (
.seq (.region true [
  ⟨(some 17), .ld true 4 (.t 1), none, 0⟩,
  ⟨(some 18), .ld true 4 (.t 2), none, 0⟩,
  ⟨(some 19), .build [(.d (.i .i64 0)), (.d (.i .i64 0)), (.d (.s [])), (.nil 4)] [(0, 1, (.k (.d (.i .i64 3))))], none, 0⟩,
  ⟨(some 20), .build [(.d (.i .i64 0)), (.d (.i .i64 0)), (.d (.s [])), (.nil 4)] [(0, 1, (.k (.d (.i .i64 2)))), (1, 1, (.k (.d (.i .i64 1))))], none, 0⟩,
  ⟨(some 21), .ld true 4 (.t 3), none, 0⟩,
  ⟨(some 22), .ld true 4 (.t 2), none, 0⟩,
  ⟨(some 23), .ld true 4 (.t 2), none, 0⟩,
  ⟨(some 24), .bsl 4 3 [(.i .i64 0), (.i .i64 0), (.s []), (.l 4 [])] [(0, (.t 21)), (1, (.t 22)), (2, (.t 23))], none, 112⟩,
  ⟨(some 25), .build [(.d (.i .i64 0)), (.d (.i .i64 0)), (.d (.s [])), (.nil 4)] [(0, 1, (.k (.d (.i .i64 4)))), (3, 1, (.t 24))], none, 240⟩,
  ⟨(some 26), .ld true 4 (.t 1), none, 0⟩,
  ⟨(some 27), .ld true 4 (.t 2), none, 0⟩,
  ⟨(some 28), .ld true 4 (.t 3), none, 0⟩,
  ⟨(some 29), .bsl 4 3 [(.i .i64 0), (.i .i64 0), (.s []), (.l 4 [])] [(0, (.t 26)), (1, (.t 27)), (2, (.t 28))], none, 3584⟩,
  ⟨(some 30), .build [(.d (.i .i64 0)), (.d (.i .i64 0)), (.d (.s [])), (.nil 4)] [(0, 1, (.k (.d (.i .i64 5)))), (3, 1, (.t 29))], none, 7680⟩,
  ⟨(some 31), .ld true 4 (.t 4), none, 0⟩,
  ⟨(some 32), .ld true 4 (.t 3), none, 0⟩,
  ⟨(some 33), .ld true 4 (.t 4), none, 0⟩,
  ⟨(some 34), .call 122 [(.t 32), (.t 33)] 0 true, none, 98304⟩,
  ⟨(some 35), .bsl 4 2 [(.i .i64 0), (.i .i64 0), (.s []), (.l 4 [])] [(0, (.t 31)), (1, (.t 34))], none, 245760⟩,
  ⟨(some 36), .build [(.d (.i .i64 0)), (.d (.i .i64 0)), (.d (.s [])), (.nil 4)] [(0, 1, (.k (.d (.i .i64 6)))), (3, 1, (.t 35))], none, 507904⟩,
  ⟨(some 37), .build [(.d (.i .i64 0)), (.d (.i .i64 0)), (.d (.s [])), (.nil 4)] [(0, 1, (.k (.d (.i .i64 7)))), (1, 1, (.k (.d (.i .i64 13))))], none, 0⟩,
  ⟨(some 38), .mks 1 1 [(.i .u8 0)] true (.k (.d (.i .i64 959))) (.k (.d (.i .i64 959))), none, 0⟩,
  ⟨(some 39), .bts (.t 38), none, 2097152⟩,
  ⟨(some 40), .build [(.d (.i .i64 0)), (.d (.i .i64 0)), (.d (.s [])), (.nil 4)] [(0, 1, (.k (.d (.i .i64 3)))), (2, 1, (.t 39))], none, 6291456⟩,
  ⟨(some 41), .bsl 4 9 [(.i .i64 0), (.i .i64 0), (.s []), (.l 4 [])] [(0, (.t 17)), (1, (.t 18)), (2, (.t 19)), (3, (.t 20)), (4, (.t 25)), (5, (.t 30)), (6, (.t 36)), (7, (.t 37)), (8, (.t 40))], none, 16777215⟩,
  ⟨(some 5), .mv (.t 41), none, 33554431⟩]) (
.seq (.region true [
  ⟨(some 42), .build [(.d (.i .i64 0)), (.d (.i .i64 0)), (.d (.s [])), (.nil 4)] [], none, 0⟩,
  ⟨(some 43), .build [(.d (.i .i64 0)), (.d (.i .i64 0)), (.d (.s [])), (.nil 4)] [(0, 1, (.k (.d (.i .i64 8))))], none, 0⟩,
  ⟨(some 44), .build [(.d (.i .i64 0)), (.d (.i .i64 0)), (.d (.s [])), (.nil 4)] [(0, 1, (.k (.d (.i .i64 (-1)))))], none, 0⟩,
  ⟨(some 45), .build [(.d (.i .i64 0)), (.d (.i .i64 0)), (.d (.s [])), (.nil 4)] [(0, 1, (.k (.d (.i .i64 1)))), (2, 1, (.k (.d (.s [97]))))], none, 0⟩,
  ⟨(some 46), .build [(.d (.i .i64 0)), (.d (.i .i64 0)), (.d (.s [])), (.nil 4)] [(0, 1, (.k (.d (.i .i64 2)))), (1, 1, (.k (.d (.i .i64 2))))], none, 0⟩,
  ⟨(some 47), .build [(.d (.i .i64 0)), (.d (.i .i64 0)), (.d (.s [])), (.nil 4)] [(0, 1, (.k (.d (.i .i64 2)))), (1, 1, (.k (.d (.i .i64 (-1)))))], none, 0⟩,
  ⟨(some 48), .build [(.d (.i .i64 0)), (.d (.i .i64 0)), (.d (.s [])), (.nil 4)] [(0, 1, (.k (.d (.i .i64 3)))), (1, 1, (.k (.d (.i .i64 1))))], none, 0⟩,
  ⟨(some 49), .build [(.d (.i .i64 0)), (.d (.i .i64 0)), (.d (.s [])), (.nil 4)] [(0, 1, (.k (.d (.i .i64 4)))), (1, 1, (.k (.d (.i .i64 1))))], none, 0⟩,
  ⟨(some 50), .build [(.d (.i .i64 0)), (.d (.i .i64 0)), (.d (.s [])), (.nil 4)] [], none, 0⟩,
  ⟨(some 51), .bsl 4 1 [(.i .i64 0), (.i .i64 0), (.s []), (.l 4 [])] [(0, (.t 50))], none, 256⟩,
  ⟨(some 52), .build [(.d (.i .i64 0)), (.d (.i .i64 0)), (.d (.s [])), (.nil 4)] [(0, 1, (.k (.d (.i .i64 4)))), (3, 1, (.t 51))], none, 768⟩,
  ⟨(some 53), .build [(.d (.i .i64 0)), (.d (.i .i64 0)), (.d (.s [])), (.nil 4)] [(0, 1, (.k (.d (.i .i64 7)))), (1, 1, (.k (.d (.i .i64 1))))], none, 0⟩,
  ⟨(some 54), .bsl 4 1 [(.i .i64 0), (.i .i64 0), (.s []), (.l 4 [])] [(0, (.t 53))], none, 2048⟩,
  ⟨(some 55), .build [(.d (.i .i64 0)), (.d (.i .i64 0)), (.d (.s [])), (.nil 4)] [(0, 1, (.k (.d (.i .i64 4)))), (3, 1, (.t 54))], none, 6144⟩,
  ⟨(some 56), .ld true 4 (.t 2), none, 0⟩,
  ⟨(some 57), .ld true 4 (.t 2), none, 0⟩,
  ⟨(some 58), .bsl 4 2 [(.i .i64 0), (.i .i64 0), (.s []), (.l 4 [])] [(0, (.t 56)), (1, (.t 57))], none, 49152⟩,
  ⟨(some 59), .build [(.d (.i .i64 0)), (.d (.i .i64 0)), (.d (.s [])), (.nil 4)] [(0, 1, (.k (.d (.i .i64 5)))), (3, 1, (.t 58))], none, 114688⟩,
  ⟨(some 60), .ld true 4 (.t 3), none, 0⟩,
  ⟨(some 61), .ld true 4 (.t 2), none, 0⟩,
  ⟨(some 62), .bsl 4 2 [(.i .i64 0), (.i .i64 0), (.s []), (.l 4 [])] [(0, (.t 60)), (1, (.t 61))], none, 786432⟩,
  ⟨(some 63), .build [(.d (.i .i64 0)), (.d (.i .i64 0)), (.d (.s [])), (.nil 4)] [(0, 1, (.k (.d (.i .i64 5)))), (3, 1, (.t 62))], none, 1835008⟩,
  ⟨(some 64), .ld true 4 (.t 1), none, 0⟩,
  ⟨(some 65), .bsl 4 1 [(.i .i64 0), (.i .i64 0), (.s []), (.l 4 [])] [(0, (.t 64))], none, 4194304⟩,
  ⟨(some 66), .build [(.d (.i .i64 0)), (.d (.i .i64 0)), (.d (.s [])), (.nil 4)] [(0, 1, (.k (.d (.i .i64 6)))), (3, 1, (.t 65))], none, 12582912⟩,
  ⟨(some 67), .ld true 4 (.t 1), none, 0⟩,
  ⟨(some 68), .ld true 4 (.t 2), none, 0⟩,
  ⟨(some 69), .call 122 [(.t 67), (.t 68)] 0 true, none, 100663296⟩,
  ⟨(some 70), .bsl 4 1 [(.i .i64 0), (.i .i64 0), (.s []), (.l 4 [])] [(0, (.t 69))], none, 234881024⟩,
  ⟨(some 71), .build [(.d (.i .i64 0)), (.d (.i .i64 0)), (.d (.s [])), (.nil 4)] [(0, 1, (.k (.d (.i .i64 6)))), (3, 1, (.t 70))], none, 503316480⟩,
  ⟨(some 72), .ld true 4 (.t 4), none, 0⟩,
  ⟨(some 73), .ld true 4 (.t 4), none, 0⟩,
  ⟨(some 74), .bsl 4 2 [(.i .i64 0), (.i .i64 0), (.s []), (.l 4 [])] [(0, (.t 72)), (1, (.t 73))], none, 3221225472⟩,
  ⟨(some 75), .build [(.d (.i .i64 0)), (.d (.i .i64 0)), (.d (.s [])), (.nil 4)] [(0, 1, (.k (.d (.i .i64 6)))), (3, 1, (.t 74))], none, 7516192768⟩,
  ⟨(some 76), .ld true 4 (.t 3), none, 0⟩,
  ⟨(some 77), .ld true 4 (.t 2), none, 0⟩,
  ⟨(some 78), .call 122 [(.t 76), (.t 77)] 0 true, none, 51774488576⟩,
  ⟨(some 79), .ld true 4 (.t 4), none, 0⟩,
  ⟨(some 80), .bsl 4 2 [(.i .i64 0), (.i .i64 0), (.s []), (.l 4 [])] [(0, (.t 78)), (1, (.t 79))], none, 257932918784⟩,
  ⟨(some 81), .build [(.d (.i .i64 0)), (.d (.i .i64 0)), (.d (.s [])), (.nil 4)] [(0, 1, (.k (.d (.i .i64 6)))), (3, 1, (.t 80))], none, 532810825728⟩,
  ⟨(some 82), .build [(.d (.i .i64 0)), (.d (.i .i64 0)), (.d (.s [])), (.nil 4)] [(0, 1, (.k (.d (.i .i64 7))))], none, 0⟩,
  ⟨(some 83), .build [(.d (.i .i64 0)), (.d (.i .i64 0)), (.d (.s [])), (.nil 4)] [(0, 1, (.k (.d (.i .i64 7)))), (1, 1, (.k (.d (.i .i64 14))))], none, 0⟩,
  ⟨(some 84), .mks 1 1 [(.i .u8 0)] true (.k (.d (.i .i64 960))) (.k (.d (.i .i64 960))), none, 0⟩,
  ⟨(some 85), .bts (.t 84), none, 4398046511104⟩,
  ⟨(some 86), .build [(.d (.i .i64 0)), (.d (.i .i64 0)), (.d (.s [])), (.nil 4)] [(0, 1, (.k (.d (.i .i64 3)))), (2, 1, (.t 85))], none, 13194139533312⟩,
  ⟨(some 87), .mks 4 56 [(.i .i64 0), (.i .i64 0), (.s []), (.l 4 [])] true (.k (.d (.i .i64 60))) (.k (.d (.i .i64 60))), none, 0⟩,
  ⟨(some 88), .build [(.d (.i .i64 0)), (.d (.i .i64 0)), (.d (.s [])), (.nil 4)] [(0, 1, (.k (.d (.i .i64 4)))), (3, 1, (.t 87))], none, 35184372088832⟩,
  ⟨(some 89), .bsl 4 20 [(.i .i64 0), (.i .i64 0), (.s []), (.l 4 [])] [(0, (.t 42)), (1, (.t 43)), (2, (.t 44)), (3, (.t 45)), (4, (.t 46)), (5, (.t 47)), (6, (.t 48)), (7, (.t 49)), (8, (.t 52)), (9, (.t 55)), (10, (.t 59)), (11, (.t 63)), (12, (.t 66)), (13, (.t 71)), (14, (.t 75)), (15, (.t 81)), (16, (.t 82)), (17, (.t 83)), (18, (.t 86)), (19, (.t 88))], none, 140737488355327⟩,
  ⟨(some 6), .mv (.t 89), none, 281474976710655⟩]) (
.seq (.seq (.region false [
  ⟨(some 7), .mv (.k (.d (.i .i64 0))), none, 0⟩]) (
.block 0 (.loop ⟨[4, 5, 6, 7], [], [], [], [], true⟩ (.seq (.seq (.region false [
  ⟨(some 90), .mv (.t 7), none, 0⟩,
  ⟨(some 91), .mv (.t 5), none, 0⟩,
  ⟨(some 92), .len 0 (.t 91), none, 0⟩,
  ⟨(some 93), .bin .lss (.t 90) (.t 92), none, 0⟩]) (
.cond (.t 93) (
.skip) (.exit 0))) (
.seq (.block 1 (.seq (.region false [
  ⟨(some 96), .mv (.t 5), none, 0⟩,
  ⟨(some 97), .mv (.t 7), none, 0⟩,
  ⟨(some 98), .ia 4 (.t 96) (.t 97), none, 0⟩,
  ⟨(some 99), .ld true 4 (.t 98), none, 0⟩,
  ⟨(some 100), .call 111 [(.t 99)] 0 true, none, 0⟩,
  ⟨(some 101), .un .not (.t 100), none, 0⟩]) (
.cond (.t 101) (
.seq (.region false [
  ⟨(some 0), .mv (.k (.d (.b false))), none, 0⟩]) (
.ret)) (.skip)))) (
.region false [
  ⟨(some 94), .mv (.t 7), none, 0⟩,
  ⟨(some 95), .bin .add (.t 94) (.k (.d (.i .i64 1))), none, 0⟩,
  ⟨(some 7), .mv (.t 95), none, 0⟩])))))) (
.seq (.seq (.region false [
  ⟨(some 8), .mv (.k (.d (.i .i64 0))), none, 0⟩]) (
.block 2 (.loop ⟨[4, 5, 6, 8], [], [], [], [], true⟩ (.seq (.seq (.region false [
  ⟨(some 102), .mv (.t 8), none, 0⟩,
  ⟨(some 103), .mv (.t 6), none, 0⟩,
  ⟨(some 104), .len 0 (.t 103), none, 0⟩,
  ⟨(some 105), .bin .lss (.t 102) (.t 104), none, 0⟩]) (
.cond (.t 105) (
.skip) (.exit 2))) (
.seq (.block 3 (.seq (.region false [
  ⟨(some 108), .mv (.t 6), none, 0⟩,
  ⟨(some 109), .mv (.t 8), none, 0⟩,
  ⟨(some 110), .ia 4 (.t 108) (.t 109), none, 0⟩,
  ⟨(some 111), .ld true 4 (.t 110), none, 0⟩,
  ⟨(some 112), .call 111 [(.t 111)] 0 true, none, 0⟩]) (
.cond (.t 112) (
.seq (.region false [
  ⟨(some 0), .mv (.k (.d (.b false))), none, 0⟩]) (
.ret)) (.skip)))) (
.region false [
  ⟨(some 106), .mv (.t 8), none, 0⟩,
  ⟨(some 107), .bin .add (.t 106) (.k (.d (.i .i64 1))), none, 0⟩,
  ⟨(some 8), .mv (.t 107), none, 0⟩])))))) (
.seq (.region false [
  ⟨(some 113), .ld true 4 (.t 4), none, 0⟩,
  ⟨(some 114), .call 112 [(.t 113)] 0 true, none, 0⟩,
  ⟨(some 115), .bin .eql (.t 114) (.k (.d (.i .i64 3))), none, 0⟩,
  ⟨(some 116), .mv (.t 115), none, 0⟩,
  ⟨(some 117), .mv (.t 5), (some (116, true)), 0⟩,
  ⟨(some 118), .ia 4 (.t 117) (.k (.d (.i .i64 8))), (some (116, true)), 0⟩,
  ⟨(some 119), .ld true 4 (.t 118), (some (116, true)), 0⟩,
  ⟨(some 120), .call 112 [(.t 119)] 0 true, (some (116, true)), 0⟩,
  ⟨(some 121), .bin .eql (.t 120) (.k (.d (.i .i64 60))), (some (116, true)), 0⟩,
  ⟨(some 122), .pick (.t 116) (.t 121) (.k (.d (.b false))), none, 0⟩,
  ⟨(some 0), .mv (.t 122), none, 0⟩]) (
.ret))))))))), [.slot 0]⟩
def n103 : Notes := ⟨[⟨[4, 5, 6, 7], [], [], [], [], true⟩, ⟨[4, 5, 6, 8], [], [], [], [], true⟩], [false, false, false, false, false, false, false, false, false, false, false, false, false, false, false, false, false, false, false, false, false, false, false, false, false, false, false, false, false, false, false, false, false, false, false, false, false, false, false, true, false, false, false, false, false, false, false, false, false, false, false, false, false, false, false, false, false, false, false, false, false, false, false, false, false, false, false, false, false, false, false, false, false, false, false, false, false, false, false, false, false, false, false, false, false, false, true, false, false, true]⟩

/-- lemmata/lemmatalaw1.ValSets -/
def c104 : CFn := ⟨.seq (.region false [
  ⟨(some 4), .mv (.k (.d (.b false))), none, 0⟩]) (
.seq (.seq (.region false [
  ⟨(some 14), .call 106 [] 0 true, none, 0⟩,
  ⟨(some 15), .un .not (.t 14), none, 0⟩]) (
.cond (.t 15) (
.seq (.region false [
  ⟨(some 4), .mv (.k (.d (.b false))), none, 0⟩]) (
.ret)) (.skip))) (
.seq (.seq (.region false [
  ⟨(some 16), .mv (.t 0), none, 0⟩,
  ⟨(some 17), .len 0 (.t 16), none, 0⟩,
  ⟨(some 18), .bin .gtr (.t 17) (.k (.d (.i .i64 8))), none, 0⟩]) (
.cond (.t 18) (
.seq (.region false [
  ⟨(some 4), .mv (.k (.d (.b true))), none, 0⟩]) (
.ret)) (.skip))) (
.seq (.region false [
  ⟨(some 5), .mv (.k (.nil 4)), none, 0⟩,
  ⟨(some 6), .mv (.k (.nil 4)), none, 0⟩,
  ⟨(some 7), .mv (.k (.nil 4)), none, 0⟩]) (
.seq (.seq (.region false [
  ⟨(some 8), .mv (.k (.d (.i .i64 0))), none, 0⟩]) (
.block 0 (.loop ⟨[0, 1, 5, 6, 7, 8], [5], [], [], [], true⟩ (.seq (.seq (.region false [
  ⟨(some 19), .mv (.t 8), none, 0⟩,
  ⟨(some 20), .mv (.t 0), none, 0⟩,
  ⟨(some 21), .len 0 (.t 20), none, 0⟩,
  ⟨(some 22), .bin .lss (.t 19) (.t 21), none, 0⟩]) (
.cond (.t 22) (
.skip) (.exit 0))) (
.seq (.block 1 (.seq (.seq (.region false [
  ⟨(some 25), .mv (.t 0), none, 0⟩,
  ⟨(some 26), .mv (.t 8), none, 0⟩,
  ⟨(some 27), .ia 1 (.t 25) (.t 26), none, 0⟩,
  ⟨(some 28), .ld false 1 (.t 27), none, 0⟩,
  ⟨(some 29), .len 0 (.t 28), none, 0⟩,
  ⟨(some 30), .bin .gtr (.t 29) (.k (.d (.i .i64 20))), none, 0⟩]) (
.cond (.t 30) (
.seq (.region false [
  ⟨(some 4), .mv (.k (.d (.b true))), none, 0⟩]) (
.ret)) (.skip))) (
.region false [
  ⟨(some 31), .mv (.t 5), none, 0⟩,
  ⟨(some 32), .mv (.t 0), none, 0⟩,
  ⟨(some 33), .mv (.t 8), none, 0⟩,
  ⟨(some 34), .ia 1 (.t 32) (.t 33), none, 0⟩,
  ⟨(some 35), .ld false 1 (.t 34), none, 0⟩,
  ⟨(some 36), .call 108 [(.t 35)] 4 true, none, 0⟩,
  ⟨(some 37), .call 109 [(.t 36), (.k (.d (.i .i64 2)))] 4 true, none, 0⟩,
  ⟨(some 38), .bsl 4 1 [(.i .i64 0), (.i .i64 0), (.s []), (.l 4 [])] [(0, (.t 37))], none, 0⟩,
  ⟨(some 39), .app 4 56 (.t 31) (.t 38), none, 0⟩,
  ⟨(some 5), .mv (.t 39), none, 0⟩]))) (
.region false [
  ⟨(some 23), .mv (.t 8), none, 0⟩,
  ⟨(some 24), .bin .add (.t 23) (.k (.d (.i .i64 1))), none, 0⟩,
  ⟨(some 8), .mv (.t 24), none, 0⟩])))))) (
.seq (.seq (.region false [
  ⟨(some 9), .mv (.k (.d (.i .i64 0))), none, 0⟩]) (
.block 2 (.loop ⟨[1, 5, 6, 7, 9], [], [], [6, 7], [], true⟩ (.seq (.seq (.region false [
  ⟨(some 40), .mv (.t 9), none, 0⟩,
  ⟨(some 41), .mv (.t 5), none, 0⟩,
  ⟨(some 42), .len 0 (.t 41), none, 0⟩,
  ⟨(some 43), .bin .lss (.t 40) (.t 42), none, 0⟩]) (
.cond (.t 43) (
.skip) (.exit 2))) (
.seq (.block 3 (.seq (.region false [
  ⟨(some 46), .mv (.t 6), none, 0⟩,
  ⟨(some 47), .mv (.t 5), none, 0⟩,
  ⟨(some 48), .mv (.t 9), none, 0⟩,
  ⟨(some 49), .ia 4 (.t 47) (.t 48), none, 0⟩,
  ⟨(some 50), .ld true 4 (.t 49), none, 0⟩,
  ⟨(some 51), .call 116 [(.t 46), (.t 50)] 0 true, none, 0⟩,
  ⟨(some 6), .mv (.t 51), none, 0⟩]) (
.region false [
  ⟨(some 52), .mv (.t 7), none, 0⟩,
  ⟨(some 53), .mv (.t 5), none, 0⟩,
  ⟨(some 54), .mv (.t 9), none, 0⟩,
  ⟨(some 55), .mv (.t 1), none, 0⟩,
  ⟨(some 56), .conv .i64 (.t 55), none, 0⟩,
  ⟨(some 57), .bin .add (.t 54) (.t 56), none, 0⟩,
  ⟨(some 58), .mv (.t 5), none, 0⟩,
  ⟨(some 59), .len 0 (.t 58), none, 0⟩,
  ⟨(some 60), .bin .rem (.t 57) (.t 59), none, 0⟩,
  ⟨(some 61), .ia 4 (.t 53) (.t 60), none, 0⟩,
  ⟨(some 62), .ld true 4 (.t 61), none, 0⟩,
  ⟨(some 63), .call 116 [(.t 52), (.t 62)] 0 true, none, 0⟩,
  ⟨(some 7), .mv (.t 63), none, 0⟩]))) (
.region false [
  ⟨(some 44), .mv (.t 9), none, 0⟩,
  ⟨(some 45), .bin .add (.t 44) (.k (.d (.i .i64 1))), none, 0⟩,
  ⟨(some 9), .mv (.t 45), none, 0⟩])))))) (
.seq (.seq (.region false [
  ⟨(some 64), .mv (.t 6), none, 0⟩,
  ⟨(some 65), .mv (.t 7), none, 0⟩,
  ⟨(some 66), .call 118 [(.t 64), (.t 65)] 0 true, none, 0⟩,
  ⟨(some 67), .un .not (.t 66), none, 0⟩]) (
.cond (.t 67) (
.seq (.region false [
  ⟨(some 4), .mv (.k (.d (.b false))), none, 0⟩]) (
.ret)) (.skip))) (
.seq (.seq (.region false [
  ⟨(some 10), .mv (.k (.d (.i .i64 0))), none, 0⟩]) (
.block 4 (.loop ⟨[5, 6, 10], [], [], [], [], true⟩ (.seq (.seq (.region false [
  ⟨(some 68), .mv (.t 10), none, 0⟩,
  ⟨(some 69), .mv (.t 6), none, 0⟩,
  ⟨(some 70), .len 0 (.t 69), none, 0⟩,
  ⟨(some 71), .bin .lss (.t 68) (.t 70), none, 0⟩]) (
.cond (.t 71) (
.skip) (.exit 4))) (
.seq (.block 5 (.seq (.region true [
  ⟨(some 74), .mv (.t 10), none, 0⟩,
  ⟨(some 75), .bin .gtr (.t 74) (.k (.d (.i .i64 0))), none, 1⟩,
  ⟨(some 76), .mv (.t 75), none, 3⟩,
  ⟨(some 77), .mv (.t 6), (some (76, true)), 7⟩,
  ⟨(some 78), .mv (.t 10), (some (76, true)), 7⟩,
  ⟨(some 79), .bin .sub (.t 78) (.k (.d (.i .i64 1))), (some (76, true)), 23⟩,
  ⟨(some 80), .ia 4 (.t 77) (.t 79), (some (76, true)), 63⟩,
  ⟨(some 81), .ld true 4 (.t 80), (some (76, true)), 127⟩,
  ⟨(some 82), .mv (.t 6), (some (76, true)), 7⟩,
  ⟨(some 83), .mv (.t 10), (some (76, true)), 7⟩,
  ⟨(some 84), .ia 4 (.t 82) (.t 83), (some (76, true)), 775⟩,
  ⟨(some 85), .ld true 4 (.t 84), (some (76, true)), 1799⟩,
  ⟨(some 86), .call 114 [(.t 81), (.t 85)] 0 true, (some (76, true)), 4095⟩,
  ⟨(some 87), .bin .neq (.t 86) (.k (.d (.i .i64 (-1)))), (some (76, true)), 8191⟩,
  ⟨(some 88), .pick (.t 76) (.t 87) (.k (.d (.b false))), none, 16383⟩]) (
.cond (.t 88) (
.seq (.region false [
  ⟨(some 4), .mv (.k (.d (.b false))), none, 0⟩]) (
.ret)) (.skip)))) (
.region false [
  ⟨(some 72), .mv (.t 10), none, 0⟩,
  ⟨(some 73), .bin .add (.t 72) (.k (.d (.i .i64 1))), none, 0⟩,
  ⟨(some 10), .mv (.t 73), none, 0⟩])))))) (
.seq (.seq (.region false [
  ⟨(some 11), .mv (.k (.d (.i .i64 0))), none, 0⟩]) (
.block 6 (.loop ⟨[5, 6, 11], [], [], [], [], true⟩ (.seq (.seq (.region false [
  ⟨(some 89), .mv (.t 11), none, 0⟩,
  ⟨(some 90), .mv (.t 5), none, 0⟩,
  ⟨(some 91), .len 0 (.t 90), none, 0⟩,
  ⟨(some 92), .bin .lss (.t 89) (.t 91), none, 0⟩]) (
.cond (.t 92) (
.skip) (.exit 6))) (
.seq (.block 7 (.seq (.region false [
  ⟨(some 12), .mv (.k (.d (.i .i64 0))), none, 0⟩]) (
.seq (.seq (.region false [
  ⟨(some 13), .mv (.k (.d (.i .i64 0))), none, 0⟩]) (
.block 8 (.loop ⟨[5, 6, 11, 12, 13], [], [], [], [], true⟩ (.seq (.seq (.region false [
  ⟨(some 95), .mv (.t 13), none, 0⟩,
  ⟨(some 96), .mv (.t 6), none, 0⟩,
  ⟨(some 97), .len 0 (.t 96), none, 0⟩,
  ⟨(some 98), .bin .lss (.t 95) (.t 97), none, 0⟩]) (
.cond (.t 98) (
.skip) (.exit 8))) (
.seq (.block 9 (.seq (.region true [
  ⟨(some 101), .mv (.t 6), none, 0⟩,
  ⟨(some 102), .mv (.t 13), none, 0⟩,
  ⟨(some 103), .ia 4 (.t 101) (.t 102), none, 3⟩,
  ⟨(some 104), .ld true 4 (.t 103), none, 7⟩,
  ⟨(some 105), .mv (.t 5), none, 0⟩,
  ⟨(some 106), .mv (.t 11), none, 0⟩,
  ⟨(some 107), .ia 4 (.t 105) (.t 106), none, 48⟩,
  ⟨(some 108), .ld true 4 (.t 107), none, 112⟩,
  ⟨(some 109), .call 114 [(.t 104), (.t 108)] 0 true, none, 255⟩,
  ⟨(some 110), .bin .eql (.t 109) (.k (.d (.i .i64 0))), none, 511⟩]) (
.cond (.t 110) (
.region false [
  ⟨(some 111), .mv (.t 12), none, 0⟩,
  ⟨(some 112), .bin .add (.t 111) (.k (.d (.i .i64 1))), none, 0⟩,
  ⟨(some 12), .mv (.t 112), none, 0⟩]) (.skip)))) (
.region false [
  ⟨(some 99), .mv (.t 13), none, 0⟩,
  ⟨(some 100), .bin .add (.t 99) (.k (.d (.i .i64 1))), none, 0⟩,
  ⟨(some 13), .mv (.t 100), none, 0⟩])))))) (
.seq (.region false [
  ⟨(some 113), .mv (.t 12), none, 0⟩,
  ⟨(some 114), .bin .neq (.t 113) (.k (.d (.i .i64 1))), none, 0⟩]) (
.cond (.t 114) (
.seq (.region false [
  ⟨(some 4), .mv (.k (.d (.b false))), none, 0⟩]) (
.ret)) (.skip)))))) (
.region false [
  ⟨(some 93), .mv (.t 11), none, 0⟩,
  ⟨(some 94), .bin .add (.t 93) (.k (.d (.i .i64 1))), none, 0⟩,
  ⟨(some 11), .mv (.t 94), none, 0⟩])))))) (
.seq (.region false [
  ⟨(some 4), .mv (.k (.d (.b true))), none, 0⟩]) (
.ret)))))))))), [.slot 4]⟩
def n104 : Notes := ⟨[⟨[0, 1, 5, 6, 7, 8], [5], [], [], [], true⟩, ⟨[1, 5, 6, 7, 9], [], [], [6, 7], [], true⟩, ⟨[5, 6, 10], [], [], [], [], true⟩, ⟨[5, 6, 11], [], [], [], [], true⟩, ⟨[5, 6, 11, 12, 13], [], [], [], [], true⟩], []⟩

/-- lemmata/lemmatalaw1.ValSize -/
def c105 : CFn := ⟨.seq (.region false [
  ⟨(some 2), .mv (.k (.d (.b false))), none, 0⟩]) (
.seq (.seq (.region false [
  ⟨(some 7), .call 106 [] 0 true, none, 0⟩,
  ⟨(some 8), .un .not (.t 7), none, 0⟩]) (
.cond (.t 8) (
.seq (.region false [
  ⟨(some 2), .mv (.k (.d (.b false))), none, 0⟩]) (
.ret)) (.skip))) (
.seq (.seq (.region false [
  ⟨(some 9), .mv (.t 0), none, 0⟩,
  ⟨(some 10), .len 0 (.t 9), none, 0⟩,
  ⟨(some 11), .bin .gtr (.t 10) (.k (.d (.i .i64 6))), none, 0⟩]) (
.cond (.t 11) (
.seq (.region false [
  ⟨(some 2), .mv (.k (.d (.b true))), none, 0⟩]) (
.ret)) (.skip))) (
.seq (.region false [
  ⟨(some 12), .build [(.d (.i .i64 0)), (.d (.i .i64 0)), (.d (.s [])), (.nil 4)] [(0, 1, (.k (.d (.i .i64 4))))], none, 0⟩,
  ⟨(some 3), .zero (.agg [(.d (.i .i64 0)), (.d (.i .i64 0)), (.d (.s [])), (.nil 4)]), none, 0⟩,
  ⟨none, .st 4 (.t 3) (.t 12), none, 0⟩]) (
.seq (.region false [
  ⟨(some 4), .mv (.k (.d (.i .i64 1))), none, 0⟩]) (
.seq (.seq (.region false [
  ⟨(some 5), .mv (.k (.d (.i .i64 0))), none, 0⟩]) (
.block 0 (.loop ⟨[0, 3, 4, 5], [], [(3, 3)], [], [], true⟩ (.seq (.seq (.region false [
  ⟨(some 13), .mv (.t 5), none, 0⟩,
  ⟨(some 14), .mv (.t 0), none, 0⟩,
  ⟨(some 15), .len 0 (.t 14), none, 0⟩,
  ⟨(some 16), .bin .lss (.t 13) (.t 15), none, 0⟩]) (
.cond (.t 16) (
.skip) (.exit 0))) (
.seq (.block 1 (.seq (.seq (.region false [
  ⟨(some 19), .mv (.t 0), none, 0⟩,
  ⟨(some 20), .mv (.t 5), none, 0⟩,
  ⟨(some 21), .ia 1 (.t 19) (.t 20), none, 0⟩,
  ⟨(some 22), .ld false 1 (.t 21), none, 0⟩,
  ⟨(some 23), .len 0 (.t 22), none, 0⟩,
  ⟨(some 24), .bin .gtr (.t 23) (.k (.d (.i .i64 20))), none, 0⟩]) (
.cond (.t 24) (
.seq (.region false [
  ⟨(some 2), .mv (.k (.d (.b true))), none, 0⟩]) (
.ret)) (.skip))) (
.seq (.region false [
  ⟨(some 25), .mv (.t 0), none, 0⟩,
  ⟨(some 26), .mv (.t 5), none, 0⟩,
  ⟨(some 27), .ia 1 (.t 25) (.t 26), none, 0⟩,
  ⟨(some 28), .ld false 1 (.t 27), none, 0⟩,
  ⟨(some 29), .call 108 [(.t 28)] 4 true, none, 0⟩,
  ⟨(some 30), .call 109 [(.t 29), (.k (.d (.i .i64 2)))] 4 true, none, 0⟩,
  ⟨(some 6), .zero (.agg [(.d (.i .i64 0)), (.d (.i .i64 0)), (.d (.s [])), (.nil 4)]), none, 0⟩,
  ⟨none, .st 4 (.t 6) (.t 30), none, 0⟩]) (
.seq (.region false [
  ⟨(some 31), .fa 3 (.t 3), none, 0⟩,
  ⟨(some 32), .ld false 1 (.t 31), none, 0⟩,
  ⟨(some 33), .ld true 4 (.t 6), none, 0⟩,
  ⟨(some 34), .bsl 4 1 [(.i .i64 0), (.i .i64 0), (.s []), (.l 4 [])] [(0, (.t 33))], none, 0⟩,
  ⟨(some 35), .app 4 56 (.t 32) (.t 34), none, 0⟩,
  ⟨(some 36), .fa 3 (.t 3), none, 0⟩,
  ⟨none, .st 1 (.t 36) (.t 35), none, 0⟩]) (
.seq (.region false [
  ⟨(some 37), .mv (.t 4), none, 0⟩,
  ⟨(some 38), .ld true 4 (.t 6), none, 0⟩,
  ⟨(some 39), .call 112 [(.t 38)] 0 true, none, 0⟩,
  ⟨(some 40), .bin .add (.t 37) (.t 39), none, 0⟩,
  ⟨(some 4), .mv (.t 40), none, 0⟩]) (
.seq (.region false [
  ⟨(some 41), .ld true 4 (.t 3), none, 0⟩,
  ⟨(some 42), .call 112 [(.t 41)] 0 true, none, 0⟩,
  ⟨(some 43), .mv (.t 4), none, 0⟩,
  ⟨(some 44), .bin .neq (.t 42) (.t 43), none, 0⟩,
  ⟨(some 45), .mv (.t 44), none, 0⟩,
  ⟨(some 46), .ld true 4 (.t 3), (some (45, false)), 0⟩,
  ⟨(some 47), .call 111 [(.t 46)] 0 true, (some (45, false)), 0⟩,
  ⟨(some 48), .mv (.t 4), (some (45, false)), 0⟩,
  ⟨(some 49), .bin .leq (.t 48) (.k (.d (.i .i64 60))), (some (45, false)), 0⟩,
  ⟨(some 50), .eqb true (.t 47) (.t 49), (some (45, false)), 0⟩,
  ⟨(some 51), .pick (.t 45) (.k (.d (.b true))) (.t 50), none, 0⟩]) (
.cond (.t 51) (
.seq (.region false [
  ⟨(some 2), .mv (.k (.d (.b false))), none, 0⟩]) (
.ret)) (.skip)))))))) (
.region false [
  ⟨(some 17), .mv (.t 5), none, 0⟩,
  ⟨(some 18), .bin .add (.t 17) (.k (.d (.i .i64 1))), none, 0⟩,
  ⟨(some 5), .mv (.t 18), none, 0⟩])))))) (
.seq (.region false [
  ⟨(some 2), .mv (.k (.d (.b true))), none, 0⟩]) (
.ret))))))), [.slot 2]⟩
def n105 : Notes := ⟨[⟨[0, 3, 4, 5], [], [(3, 3)], [], [], true⟩], []⟩

/-- lemmata/lemmatalaw1.begun -/
def c106 : CFn := ⟨.seq (.region false [
  ⟨(some 0), .mv (.k (.d (.b false))), none, 0⟩]) (
.seq (.region false [
  ⟨(some 9), .build [(.d (.i .i64 0)), (.d (.i .i64 0)), (.d (.s [])), (.nil 4)] [(0, 1, (.k (.d (.i .i64 1)))), (1, 1, (.k (.d (.i .i64 3))))], none, 0⟩,
  ⟨(some 10), .build [(.d (.i .i64 0)), (.d (.i .i64 0)), (.d (.s [])), (.nil 4)] [(0, 1, (.k (.d (.i .i64 1)))), (1, 1, (.k (.d (.i .i64 5))))], none, 0⟩,
  ⟨(some 1), .zero (.agg [(.d (.i .i64 0)), (.d (.i .i64 0)), (.d (.s [])), (.nil 4)]), none, 0⟩,
  ⟨(some 2), .zero (.agg [(.d (.i .i64 0)), (.d (.i .i64 0)), (.d (.s [])), (.nil 4)]), none, 0⟩,
  ⟨none, .st 4 (.t 1) (.t 9), none, 0⟩,
  ⟨none, .st 4 (.t 2) (.t 10), none, 0⟩]) (
.seq (.region false [
  ⟨(some 11), .ld true 4 (.t 2), none, 0⟩,
  ⟨(some 12), .bsl 4 1 [(.i .i64 0), (.i .i64 0), (.s []), (.l 4 [])] [(0, (.t 11))], none, 0⟩,
  ⟨(some 13), .ld true 4 (.t 1), none, 0⟩,
  ⟨(some 14), .call 116 [(.t 12), (.t 13)] 0 true, none, 0⟩,
  ⟨(some 3), .mv (.t 14), none, 0⟩]) (
.seq (.region false [
  ⟨(some 15), .build [(.d (.i .i64 0)), (.d (.i .i64 0)), (.d (.s [])), (.nil 4)] [(0, 1, (.k (.d (.i .i64 3)))), (2, 1, (.k (.d (.s [107]))))], none, 0⟩,
  ⟨(some 16), .ld true 4 (.t 1), none, 0⟩,
  ⟨(some 17), .bsl 4 2 [(.i .i64 0), (.i .i64 0), (.s []), (.l 4 [])] [(0, (.t 15)), (1, (.t 16))], none, 0⟩,
  ⟨(some 18), .build [(.d (.i .i64 0)), (.d (.i .i64 0)), (.d (.s [])), (.nil 4)] [(0, 1, (.k (.d (.i .i64 4)))), (3, 1, (.t 17))], none, 0⟩,
  ⟨(some 19), .bsl 4 1 [(.i .i64 0), (.i .i64 0), (.s []), (.l 4 [])] [(0, (.t 18))], none, 0⟩,
  ⟨(some 4), .mv (.t 19), none, 0⟩]) (
.seq (.region false [
  ⟨(some 21), .mv (.t 4), none, 0⟩,
  ⟨(some 22), .call 119 [(.t 21), (.k (.d (.s [107])))] 0 true, none, 0⟩,
  ⟨(some 20), .mv (.t 22), none, 0⟩,
  ⟨(some 23), .ext (.t 20) 0, none, 0⟩,
  ⟨(some 24), .ext (.t 20) 1, none, 0⟩,
  ⟨(some 5), .mv (.t 23), none, 0⟩,
  ⟨(some 6), .mv (.t 24), none, 0⟩]) (
.seq (.region false [
  ⟨(some 26), .mv (.t 4), none, 0⟩,
  ⟨(some 27), .call 119 [(.t 26), (.k (.d (.s [97])))] 0 true, none, 0⟩,
  ⟨(some 25), .mv (.t 27), none, 0⟩,
  ⟨(some 28), .ext (.t 25) 0, none, 0⟩,
  ⟨(some 29), .ext (.t 25) 1, none, 0⟩,
  ⟨(some 7), .mv (.t 28), none, 0⟩,
  ⟨(some 8), .mv (.t 29), none, 0⟩]) (
.seq (.region false [
  ⟨(some 30), .ld true 4 (.t 1), none, 0⟩,
  ⟨(some 31), .call 111 [(.t 30)] 0 true, none, 0⟩,
  ⟨(some 32), .mv (.t 31), none, 0⟩,
  ⟨(some 33), .build [(.d (.i .i64 0)), (.d (.i .i64 0)), (.d (.s [])), (.nil 4)] [], (some (32, true)), 0⟩,
  ⟨(some 34), .call 111 [(.t 33)] 0 true, (some (32, true)), 0⟩,
  ⟨(some 35), .un .not (.t 34), (some (32, true)), 0⟩,
  ⟨(some 36), .pick (.t 32) (.t 35) (.k (.d (.b false))), none, 0⟩,
  ⟨(some 37), .mv (.t 36), none, 0⟩,
  ⟨(some 38), .ld true 4 (.t 1), (some (37, true)), 0⟩,
  ⟨(some 39), .call 112 [(.t 38)] 0 true, (some (37, true)), 0⟩,
  ⟨(some 40), .bin .eql (.t 39) (.k (.d (.i .i64 1))), (some (37, true)), 0⟩,
  ⟨(some 41), .pick (.t 37) (.t 40) (.k (.d (.b false))), none, 0⟩,
  ⟨(some 42), .mv (.t 41), none, 0⟩,
  ⟨(some 43), .ld true 4 (.t 1), (some (42, true)), 0⟩,
  ⟨(some 44), .ld true 4 (.t 2), (some (42, true)), 0⟩,
  ⟨(some 45), .call 114 [(.t 43), (.t 44)] 0 true, (some (42, true)), 0⟩,
  ⟨(some 46), .bin .eql (.t 45) (.k (.d (.i .i64 (-1)))), (some (42, true)), 0⟩,
  ⟨(some 47), .pick (.t 42) (.t 46) (.k (.d (.b false))), none, 0⟩,
  ⟨(some 48), .mv (.t 47), none, 0⟩,
  ⟨(some 49), .mv (.t 3), (some (48, true)), 0⟩,
  ⟨(some 50), .len 0 (.t 49), (some (48, true)), 0⟩,
  ⟨(some 51), .bin .eql (.t 50) (.k (.d (.i .i64 2))), (some (48, true)), 0⟩,
  ⟨(some 52), .pick (.t 48) (.t 51) (.k (.d (.b false))), none, 0⟩,
  ⟨(some 53), .mv (.t 52), none, 0⟩,
  ⟨(some 54), .mv (.t 3), (some (53, true)), 0⟩,
  ⟨(some 55), .ia 4 (.t 54) (.k (.d (.i .i64 0))), (some (53, true)), 0⟩,
  ⟨(some 56), .fa 1 (.t 55), (some (53, true)), 0⟩,
  ⟨(some 57), .ld false 1 (.t 56), (some (53, true)), 0⟩,
  ⟨(some 58), .bin .eql (.t 57) (.k (.d (.i .i64 3))), (some (53, true)), 0⟩,
  ⟨(some 59), .pick (.t 53) (.t 58) (.k (.d (.b false))), none, 0⟩,
  ⟨(some 60), .mv (.t 59), none, 0⟩,
  ⟨(some 61), .mv (.t 6), (some (60, true)), 0⟩,
  ⟨(some 62), .pick (.t 60) (.t 61) (.k (.d (.b false))), none, 0⟩,
  ⟨(some 63), .mv (.t 62), none, 0⟩,
  ⟨(some 64), .mv (.t 5), (some (63, true)), 0⟩,
  ⟨(some 65), .bin .eql (.t 64) (.k (.d (.i .i64 0))), (some (63, true)), 0⟩,
  ⟨(some 66), .pick (.t 63) (.t 65) (.k (.d (.b false))), none, 0⟩,
  ⟨(some 67), .mv (.t 66), none, 0⟩,
  ⟨(some 68), .mv (.t 8), (some (67, true)), 0⟩,
  ⟨(some 69), .un .not (.t 68), (some (67, true)), 0⟩,
  ⟨(some 70), .pick (.t 67) (.t 69) (.k (.d (.b false))), none, 0⟩,
  ⟨(some 0), .mv (.t 70), none, 0⟩]) (
.ret))))))), [.slot 0]⟩
def n106 : Notes := ⟨[], []⟩

/-- lemmata/lemmatalaw1.Light -/
def c107 : CFn := ⟨.seq (.region false [
  ⟨(some 2), .box (.t 0), none, 0⟩,
  ⟨(some 4), .mv (.k (.d (.b false))), none, 0⟩]) (
.seq (.seq (.region false [
  ⟨(some 6), .mv (.t 1), none, 0⟩,
  ⟨(some 7), .bin .lss (.t 6) (.k (.d (.i .i64 1))), none, 0⟩,
  ⟨(some 8), .mv (.t 7), none, 0⟩,
  ⟨(some 9), .fa 3 (.t 2), (some (8, false)), 0⟩,
  ⟨(some 10), .ld false 1 (.t 9), (some (8, false)), 0⟩,
  ⟨(some 11), .len 0 (.t 10), (some (8, false)), 0⟩,
  ⟨(some 12), .bin .gtr (.t 11) (.k (.d (.i .i64 12))), (some (8, false)), 0⟩,
  ⟨(some 13), .pick (.t 8) (.k (.d (.b true))) (.t 12), none, 0⟩,
  ⟨(some 14), .mv (.t 13), none, 0⟩,
  ⟨(some 15), .fa 2 (.t 2), (some (14, false)), 0⟩,
  ⟨(some 16), .ld false 1 (.t 15), (some (14, false)), 0⟩,
  ⟨(some 17), .len 1 (.t 16), (some (14, false)), 0⟩,
  ⟨(some 18), .bin .gtr (.t 17) (.k (.d (.i .i64 2000))), (some (14, false)), 0⟩,
  ⟨(some 19), .pick (.t 14) (.k (.d (.b true))) (.t 18), none, 0⟩]) (
.cond (.t 19) (
.seq (.region false [
  ⟨(some 4), .mv (.k (.d (.b false))), none, 0⟩]) (
.ret)) (.skip))) (
.seq (.seq (.region false [
  ⟨(some 5), .mv (.k (.d (.i .i64 0))), none, 0⟩]) (
.block 0 (.loop ⟨[1, 2, 5], [], [], [], [], true⟩ (.seq (.seq (.region false [
  ⟨(some 20), .mv (.t 5), none, 0⟩,
  ⟨(some 21), .fa 3 (.t 2), none, 0⟩,
  ⟨(some 22), .ld false 1 (.t 21), none, 0⟩,
  ⟨(some 23), .len 0 (.t 22), none, 0⟩,
  ⟨(some 24), .bin .lss (.t 20) (.t 23), none, 0⟩]) (
.cond (.t 24) (
.skip) (.exit 0))) (
.seq (.block 1 (.seq (.region false [
  ⟨(some 27), .fa 3 (.t 2), none, 0⟩,
  ⟨(some 28), .ld false 1 (.t 27), none, 0⟩,
  ⟨(some 29), .mv (.t 5), none, 0⟩,
  ⟨(some 30), .ia 4 (.t 28) (.t 29), none, 0⟩,
  ⟨(some 31), .ld true 4 (.t 30), none, 0⟩,
  ⟨(some 32), .mv (.t 1), none, 0⟩,
  ⟨(some 33), .bin .sub (.t 32) (.k (.d (.i .i64 1))), none, 0⟩,
  ⟨(some 34), .call 107 [(.t 31), (.t 33)] 0 true, none, 0⟩,
  ⟨(some 35), .un .not (.t 34), none, 0⟩]) (
.cond (.t 35) (
.seq (.region false [
  ⟨(some 4), .mv (.k (.d (.b false))), none, 0⟩]) (
.ret)) (.skip)))) (
.region false [
  ⟨(some 25), .mv (.t 5), none, 0⟩,
  ⟨(some 26), .bin .add (.t 25) (.k (.d (.i .i64 1))), none, 0⟩,
  ⟨(some 5), .mv (.t 26), none, 0⟩])))))) (
.seq (.region false [
  ⟨(some 4), .mv (.k (.d (.b true))), none, 0⟩]) (
.ret)))), [.slot 4]⟩
def n107 : Notes := ⟨[⟨[1, 2, 5], [], [], [], [], true⟩], []⟩

/-- lemmata/lemmataplay.Made -/
def c108 : CFn := ⟨.seq (.region false [
  ⟨(some 2), .mv (.k (.d .np)), none, 0⟩]) (
.seq (.region false [
  ⟨(some 3), .mv (.t 0), none, 0⟩,
  ⟨(some 4), .build [(.nil 1), (.d (.i .i64 0))] [(0, 1, (.t 3))], none, 0⟩,
  ⟨(some 5), .box (.t 4), none, 0⟩,
  ⟨(some 2), .mv (.t 5), none, 0⟩]) (
.ret)), [.slot 2]⟩
def n108 : Notes := ⟨[], []⟩

/-- (*lemmata/lemmataplay.Picks).Val -/
def c109 : CFn := ⟨.seq (.region false [
  ⟨(some 4), .zero (.agg [(.d (.i .i64 0)), (.d (.i .i64 0)), (.d (.s [])), (.nil 4)]), none, 0⟩]) (
.seq (.seq (.region false [
  ⟨(some 15), .mv (.t 0), none, 0⟩,
  ⟨(some 16), .call 123 [(.t 15), (.k (.d (.i .i64 9)))] 4 true, none, 0⟩,
  ⟨(some 5), .mv (.t 16), none, 0⟩]) (
.block 0 (.seq (.region false [
  ⟨(some 18), .mv (.t 5), none, 0⟩,
  ⟨(some 19), .bin .lss (.t 18) (.k (.d (.i .i64 3))), none, 0⟩,
  ⟨(some 17), .mv (.t 19), none, 0⟩]) (
.cond (.t 17) (
.seq (.region false [
  ⟨(some 20), .bsl 1 7 [(.i .i64 0)] [(0, (.k (.d (.i .i64 0)))), (1, (.k (.d (.i .i64 1)))), (2, (.k (.d (.i .i64 2)))), (3, (.k (.d (.i .i64 (-1))))), (4, (.k (.d (.i .i64 7)))), (5, (.k (.d (.i .i64 9223372036854775807)))), (6, (.k (.d (.i .i64 (-9223372036854775808)))))], none, 0⟩,
  ⟨(some 21), .mv (.t 0), none, 0⟩,
  ⟨(some 22), .call 123 [(.t 21), (.k (.d (.i .i64 7)))] 4 true, none, 0⟩,
  ⟨(some 23), .ia 1 (.t 20) (.t 22), none, 0⟩,
  ⟨(some 24), .ld false 1 (.t 23), none, 0⟩,
  ⟨(some 25), .build [(.d (.i .i64 0)), (.d (.i .i64 0)), (.d (.s [])), (.nil 4)] [(0, 1, (.k (.d (.i .i64 1)))), (1, 1, (.t 24))], none, 0⟩,
  ⟨none, .st 4 (.t 4) (.t 25), none, 0⟩]) (
.ret)) (.seq (.region false [
  ⟨(some 27), .mv (.t 5), none, 0⟩,
  ⟨(some 28), .bin .eql (.t 27) (.k (.d (.i .i64 3))), none, 0⟩,
  ⟨(some 26), .mv (.t 28), none, 0⟩]) (
.cond (.t 26) (
.seq (.region false [
  ⟨(some 29), .mv (.t 0), none, 0⟩,
  ⟨(some 30), .call 123 [(.t 29), (.k (.d (.i .i64 2)))] 4 true, none, 0⟩,
  ⟨(some 31), .build [(.d (.i .i64 0)), (.d (.i .i64 0)), (.d (.s [])), (.nil 4)] [(0, 1, (.k (.d (.i .i64 2)))), (1, 1, (.t 30))], none, 0⟩,
  ⟨none, .st 4 (.t 4) (.t 31), none, 0⟩]) (
.ret)) (.seq (.region false [
  ⟨(some 33), .mv (.t 5), none, 0⟩,
  ⟨(some 34), .bin .eql (.t 33) (.k (.d (.i .i64 4))), none, 0⟩,
  ⟨(some 35), .mv (.t 34), none, 0⟩,
  ⟨(some 36), .mv (.t 1), (some (35, false)), 0⟩,
  ⟨(some 37), .bin .eql (.t 36) (.k (.d (.i .i64 0))), (some (35, false)), 0⟩,
  ⟨(some 38), .pick (.t 35) (.k (.d (.b true))) (.t 37), none, 0⟩,
  ⟨(some 32), .mv (.t 38), none, 0⟩]) (
.cond (.t 32) (
.seq (.region false [
  ⟨(some 39), .bsl 1 5 [(.s [])] [(0, (.k (.d (.s [])))), (1, (.k (.d (.s [97])))), (2, (.k (.d (.s [98])))), (3, (.k (.d (.s [97, 98])))), (4, (.k (.d (.s [97, 45, 116, 101, 120, 116, 45, 111, 102, 45, 50, 49, 45, 98, 121, 116, 101, 115, 45, 120, 120]))))], none, 0⟩,
  ⟨(some 40), .mv (.t 0), none, 0⟩,
  ⟨(some 41), .call 123 [(.t 40), (.k (.d (.i .i64 5)))] 4 true, none, 0⟩,
  ⟨(some 42), .ia 1 (.t 39) (.t 41), none, 0⟩,
  ⟨(some 43), .ld false 1 (.t 42), none, 0⟩,
  ⟨(some 44), .build [(.d (.i .i64 0)), (.d (.i .i64 0)), (.d (.s [])), (.nil 4)] [(0, 1, (.k (.d (.i .i64 3)))), (2, 1, (.t 43))], none, 0⟩,
  ⟨none, .st 4 (.t 4) (.t 44), none, 0⟩]) (
.ret)) (.seq (.region false [
  ⟨(some 46), .mv (.t 5), none, 0⟩,
  ⟨(some 47), .bin .eql (.t 46) (.k (.d (.i .i64 5))), none, 0⟩,
  ⟨(some 45), .mv (.t 47), none, 0⟩]) (
.cond (.t 45) (
.seq (.region false [
  ⟨(some 48), .mv (.t 0), none, 0⟩,
  ⟨(some 49), .mv (.t 1), none, 0⟩,
  ⟨(some 50), .call 124 [(.t 48), (.t 49)] 4 true, none, 0⟩,
  ⟨(some 51), .build [(.d (.i .i64 0)), (.d (.i .i64 0)), (.d (.s [])), (.nil 4)] [(0, 1, (.k (.d (.i .i64 4)))), (3, 1, (.t 50))], none, 0⟩,
  ⟨none, .st 4 (.t 4) (.t 51), none, 0⟩]) (
.ret)) (.seq (.region false [
  ⟨(some 53), .mv (.t 5), none, 0⟩,
  ⟨(some 54), .bin .eql (.t 53) (.k (.d (.i .i64 6))), none, 0⟩,
  ⟨(some 52), .mv (.t 54), none, 0⟩]) (
.cond (.t 52) (
.seq (.region false [
  ⟨(some 55), .build [(.d (.i .i64 0)), (.d (.i .i64 0)), (.d (.s [])), (.nil 4)] [(0, 1, (.k (.d (.i .i64 5))))], none, 0⟩,
  ⟨(some 6), .zero (.agg [(.d (.i .i64 0)), (.d (.i .i64 0)), (.d (.s [])), (.nil 4)]), none, 0⟩,
  ⟨none, .st 4 (.t 6) (.t 55), none, 0⟩]) (
.seq (.region false [
  ⟨(some 56), .mv (.t 0), none, 0⟩,
  ⟨(some 57), .mv (.t 1), none, 0⟩,
  ⟨(some 58), .call 124 [(.t 56), (.t 57)] 4 true, none, 0⟩,
  ⟨(some 7), .mv (.t 58), none, 0⟩]) (
.seq (.seq (.region false [
  ⟨(some 8), .mv (.k (.d (.i .i64 0))), none, 0⟩]) (
.block 1 (.loop ⟨[4, 6, 7, 8], [], [], [], [(6, 3)], true⟩ (.seq (.seq (.region false [
  ⟨(some 59), .mv (.t 8), none, 0⟩,
  ⟨(some 60), .mv (.t 7), none, 0⟩,
  ⟨(some 61), .len 0 (.t 60), none, 0⟩,
  ⟨(some 62), .bin .lss (.t 59) (.t 61), none, 0⟩]) (
.cond (.t 62) (
.skip) (.exit 1))) (
.seq (.block 2 (.region true [
  ⟨(some 65), .fa 3 (.t 6), none, 0⟩,
  ⟨(some 66), .ld false 1 (.t 65), none, 1⟩,
  ⟨(some 67), .mv (.t 7), none, 0⟩,
  ⟨(some 68), .mv (.t 8), none, 0⟩,
  ⟨(some 69), .ia 4 (.t 67) (.t 68), none, 12⟩,
  ⟨(some 70), .ld true 4 (.t 69), none, 28⟩,
  ⟨(some 71), .call 117 [(.t 66), (.t 70)] 0 true, none, 63⟩,
  ⟨(some 72), .fa 3 (.t 6), none, 127⟩,
  ⟨none, .st 1 (.t 72) (.t 71), none, 255⟩])) (
.region false [
  ⟨(some 63), .mv (.t 8), none, 0⟩,
  ⟨(some 64), .bin .add (.t 63) (.k (.d (.i .i64 1))), none, 0⟩,
  ⟨(some 8), .mv (.t 64), none, 0⟩])))))) (
.seq (.region false [
  ⟨(some 73), .ld true 4 (.t 6), none, 0⟩,
  ⟨none, .st 4 (.t 4) (.t 73), none, 0⟩]) (
.ret))))) (.skip))))))))))))) (
.seq (.region false [
  ⟨(some 74), .build [(.d (.i .i64 0)), (.d (.i .i64 0)), (.d (.s [])), (.nil 4)] [(0, 1, (.k (.d (.i .i64 6))))], none, 0⟩,
  ⟨(some 9), .zero (.agg [(.d (.i .i64 0)), (.d (.i .i64 0)), (.d (.s [])), (.nil 4)]), none, 0⟩,
  ⟨none, .st 4 (.t 9) (.t 74), none, 0⟩]) (
.seq (.seq (.region false [
  ⟨(some 75), .mv (.t 0), none, 0⟩,
  ⟨(some 76), .call 123 [(.t 75), (.k (.d (.i .i64 3)))] 4 true, none, 0⟩,
  ⟨(some 10), .mv (.t 76), none, 0⟩]) (
.block 3 (.loop ⟨[0, 1, 4, 9, 10], [], [], [], [(9, 3)], true⟩ (.seq (.seq (.region false [
  ⟨(some 77), .mv (.t 10), none, 0⟩,
  ⟨(some 78), .bin .gtr (.t 77) (.k (.d (.i .i64 0))), none, 0⟩]) (
.cond (.t 78) (
.skip) (.exit 3))) (
.seq (.block 4 (.seq (.region false [
  ⟨(some 81), .bsl 1 3 [(.s [])] [(0, (.k (.d (.s [97])))), (1, (.k (.d (.s [98])))), (2, (.k (.d (.s [99]))))], none, 0⟩,
  ⟨(some 82), .mv (.t 0), none, 0⟩,
  ⟨(some 83), .call 123 [(.t 82), (.k (.d (.i .i64 3)))] 4 true, none, 0⟩,
  ⟨(some 84), .ia 1 (.t 81) (.t 83), none, 0⟩,
  ⟨(some 85), .ld false 1 (.t 84), none, 0⟩,
  ⟨(some 86), .build [(.d (.i .i64 0)), (.d (.i .i64 0)), (.d (.s [])), (.nil 4)] [(0, 1, (.k (.d (.i .i64 3)))), (2, 1, (.t 85))], none, 0⟩,
  ⟨(some 11), .zero (.agg [(.d (.i .i64 0)), (.d (.i .i64 0)), (.d (.s [])), (.nil 4)]), none, 0⟩,
  ⟨none, .st 4 (.t 11) (.t 86), none, 0⟩]) (
.seq (.region false [
  ⟨(some 88), .fa 3 (.t 9), none, 0⟩,
  ⟨(some 89), .ld false 1 (.t 88), none, 0⟩,
  ⟨(some 90), .fa 2 (.t 11), none, 0⟩,
  ⟨(some 91), .ld false 1 (.t 90), none, 0⟩,
  ⟨(some 92), .call 120 [(.t 89), (.t 91)] 0 true, none, 0⟩,
  ⟨(some 87), .mv (.t 92), none, 0⟩,
  ⟨(some 93), .ext (.t 87) 0, none, 0⟩,
  ⟨(some 94), .ext (.t 87) 1, none, 0⟩,
  ⟨(some 12), .mv (.t 93), none, 0⟩,
  ⟨(some 13), .mv (.t 94), none, 0⟩]) (
.seq (.region false [
  ⟨(some 95), .mv (.t 13), none, 0⟩,
  ⟨(some 96), .un .not (.t 95), none, 0⟩]) (
.cond (.t 96) (
.seq (.region true [
  ⟨(some 97), .ld true 4 (.t 11), none, 0⟩,
  ⟨(some 98), .mv (.t 0), none, 0⟩,
  ⟨(some 99), .mv (.t 1), none, 0⟩,
  ⟨(some 100), .bin .sub (.t 99) (.k (.d (.i .i64 1))), none, 4⟩,
  ⟨(some 101), .call 109 [(.t 98), (.t 100)] 4 true, none, 14⟩,
  ⟨(some 102), .bsl 4 2 [(.i .i64 0), (.i .i64 0), (.s []), (.l 4 [])] [(0, (.t 97)), (1, (.t 101))], none, 31⟩,
  ⟨(some 103), .build [(.d (.i .i64 0)), (.d (.i .i64 0)), (.d (.s [])), (.nil 4)] [(0, 1, (.k (.d (.i .i64 4)))), (3, 1, (.t 102))], none, 63⟩,
  ⟨(some 14), .zero (.agg [(.d (.i .i64 0)), (.d (.i .i64 0)), (.d (.s [])), (.nil 4)]), none, 0⟩,
  ⟨none, .st 4 (.t 14) (.t 103), none, 255⟩]) (
.region true [
  ⟨(some 104), .bsl 4 0 [(.i .i64 0), (.i .i64 0), (.s []), (.l 4 [])] [], none, 0⟩,
  ⟨(some 105), .fa 3 (.t 9), none, 0⟩,
  ⟨(some 106), .ld false 1 (.t 105), none, 2⟩,
  ⟨(some 107), .mv (.t 12), none, 0⟩,
  ⟨(some 108), .slc 4 (.t 106) none (some (.t 107)), none, 14⟩,
  ⟨(some 109), .app 4 56 (.t 104) (.t 108), none, 31⟩,
  ⟨(some 110), .ld true 4 (.t 14), none, 0⟩,
  ⟨(some 111), .bsl 4 1 [(.i .i64 0), (.i .i64 0), (.s []), (.l 4 [])] [(0, (.t 110))], none, 64⟩,
  ⟨(some 112), .app 4 56 (.t 109) (.t 111), none, 255⟩,
  ⟨(some 113), .fa 3 (.t 9), none, 0⟩,
  ⟨(some 114), .ld false 1 (.t 113), none, 512⟩,
  ⟨(some 115), .mv (.t 12), none, 0⟩,
  ⟨(some 116), .slc 4 (.t 114) (some (.t 115)) none, none, 3584⟩,
  ⟨(some 117), .app 4 56 (.t 112) (.t 116), none, 8191⟩,
  ⟨(some 118), .fa 3 (.t 9), none, 16383⟩,
  ⟨none, .st 1 (.t 118) (.t 117), none, 32767⟩])) (.skip)))))) (
.region false [
  ⟨(some 79), .mv (.t 10), none, 0⟩,
  ⟨(some 80), .bin .sub (.t 79) (.k (.d (.i .i64 1))), none, 0⟩,
  ⟨(some 10), .mv (.t 80), none, 0⟩])))))) (
.seq (.region false [
  ⟨(some 119), .ld true 4 (.t 9), none, 0⟩,
  ⟨none, .st 4 (.t 4) (.t 119), none, 0⟩]) (
.ret))))), [.cell 4 true 4]⟩
def n109 : Notes := ⟨[⟨[4, 6, 7, 8], [], [], [], [(6, 3)], true⟩, ⟨[0, 1, 4, 9, 10], [], [], [], [(9, 3)], true⟩], []⟩

/-- lemmata/lemmataref1.May -/
def c110 : CFn := ⟨.seq (.region false [
  ⟨(some 1), .box (.t 0), none, 0⟩,
  ⟨(some 2), .mv (.k (.d (.b false))), none, 0⟩]) (
.seq (.seq (.region false [
  ⟨(some 6), .ld true 4 (.t 1), none, 0⟩,
  ⟨(some 7), .call 113 [(.t 6)] 0 true, none, 0⟩,
  ⟨(some 8), .bin .gtr (.t 7) (.k (.d (.i .i64 60))), none, 0⟩]) (
.cond (.t 8) (
.seq (.region false [
  ⟨(some 2), .mv (.k (.d (.b false))), none, 0⟩]) (
.ret)) (.skip))) (
.seq (.seq (.region false [
  ⟨(some 3), .mv (.k (.d (.i .i64 0))), none, 0⟩]) (
.block 0 (.loop ⟨[1, 3], [], [], [], [], true⟩ (.seq (.seq (.region false [
  ⟨(some 9), .mv (.t 3), none, 0⟩,
  ⟨(some 10), .fa 3 (.t 1), none, 0⟩,
  ⟨(some 11), .ld false 1 (.t 10), none, 0⟩,
  ⟨(some 12), .len 0 (.t 11), none, 0⟩,
  ⟨(some 13), .bin .lss (.t 9) (.t 12), none, 0⟩]) (
.cond (.t 13) (
.skip) (.exit 0))) (
.seq (.block 1 (.seq (.region false [
  ⟨(some 16), .fa 3 (.t 1), none, 0⟩,
  ⟨(some 17), .ld false 1 (.t 16), none, 0⟩,
  ⟨(some 18), .mv (.t 3), none, 0⟩,
  ⟨(some 19), .ia 4 (.t 17) (.t 18), none, 0⟩,
  ⟨(some 20), .ld true 4 (.t 19), none, 0⟩,
  ⟨(some 21), .call 110 [(.t 20)] 0 true, none, 0⟩,
  ⟨(some 22), .un .not (.t 21), none, 0⟩,
  ⟨(some 23), .mv (.t 22), none, 0⟩,
  ⟨(some 24), .fa 3 (.t 1), (some (23, false)), 0⟩,
  ⟨(some 25), .ld false 1 (.t 24), (some (23, false)), 0⟩,
  ⟨(some 26), .mv (.t 3), (some (23, false)), 0⟩,
  ⟨(some 27), .ia 4 (.t 25) (.t 26), (some (23, false)), 0⟩,
  ⟨(some 28), .fa 0 (.t 27), (some (23, false)), 0⟩,
  ⟨(some 29), .ld false 1 (.t 28), (some (23, false)), 0⟩,
  ⟨(some 30), .bin .eql (.t 29) (.k (.d (.i .i64 7))), (some (23, false)), 0⟩,
  ⟨(some 31), .pick (.t 23) (.k (.d (.b true))) (.t 30), none, 0⟩]) (
.cond (.t 31) (
.seq (.region false [
  ⟨(some 2), .mv (.k (.d (.b false))), none, 0⟩]) (
.ret)) (.skip)))) (
.region false [
  ⟨(some 14), .mv (.t 3), none, 0⟩,
  ⟨(some 15), .bin .add (.t 14) (.k (.d (.i .i64 1))), none, 0⟩,
  ⟨(some 3), .mv (.t 15), none, 0⟩])))))) (
.seq (.seq (.region false [
  ⟨(some 32), .fa 0 (.t 1), none, 0⟩,
  ⟨(some 33), .ld false 1 (.t 32), none, 0⟩]) (
.block 2 (.seq (.region false [
  ⟨(some 35), .bin .eql (.t 33) (.k (.d (.i .i64 1))), none, 0⟩,
  ⟨(some 34), .mv (.t 35), none, 0⟩]) (
.cond (.t 34) (
.seq (.region false [
  ⟨(some 36), .fa 2 (.t 1), none, 0⟩,
  ⟨(some 37), .ld false 1 (.t 36), none, 0⟩,
  ⟨(some 38), .bin .eql (.t 37) (.k (.d (.s []))), none, 0⟩,
  ⟨(some 39), .mv (.t 38), none, 0⟩,
  ⟨(some 40), .fa 3 (.t 1), (some (39, true)), 0⟩,
  ⟨(some 41), .ld false 1 (.t 40), (some (39, true)), 0⟩,
  ⟨(some 42), .len 0 (.t 41), (some (39, true)), 0⟩,
  ⟨(some 43), .bin .eql (.t 42) (.k (.d (.i .i64 0))), (some (39, true)), 0⟩,
  ⟨(some 44), .pick (.t 39) (.t 43) (.k (.d (.b false))), none, 0⟩,
  ⟨(some 2), .mv (.t 44), none, 0⟩]) (
.ret)) (.seq (.region false [
  ⟨(some 46), .bin .eql (.t 33) (.k (.d (.i .i64 2))), none, 0⟩,
  ⟨(some 45), .mv (.t 46), none, 0⟩]) (
.cond (.t 45) (
.seq (.region false [
  ⟨(some 47), .fa 2 (.t 1), none, 0⟩,
  ⟨(some 48), .ld false 1 (.t 47), none, 0⟩,
  ⟨(some 49), .bin .eql (.t 48) (.k (.d (.s []))), none, 0⟩,
  ⟨(some 50), .mv (.t 49), none, 0⟩,
  ⟨(some 51), .fa 3 (.t 1), (some (50, true)), 0⟩,
  ⟨(some 52), .ld false 1 (.t 51), (some (50, true)), 0⟩,
  ⟨(some 53), .len 0 (.t 52), (some (50, true)), 0⟩,
  ⟨(some 54), .bin .eql (.t 53) (.k (.d (.i .i64 0))), (some (50, true)), 0⟩,
  ⟨(some 55), .pick (.t 50) (.t 54) (.k (.d (.b false))), none, 0⟩,
  ⟨(some 56), .mv (.t 55), none, 0⟩,
  ⟨(some 57), .fa 1 (.t 1), (some (56, true)), 0⟩,
  ⟨(some 58), .ld false 1 (.t 57), (some (56, true)), 0⟩,
  ⟨(some 59), .bin .eql (.t 58) (.k (.d (.i .i64 0))), (some (56, true)), 0⟩,
  ⟨(some 60), .mv (.t 59), (some (56, true)), 0⟩,
  ⟨(some 61), .fa 1 (.t 1), (some (60, false)), 0⟩,
  ⟨(some 62), .ld false 1 (.t 61), (some (60, false)), 0⟩,
  ⟨(some 63), .bin .eql (.t 62) (.k (.d (.i .i64 1))), (some (60, false)), 0⟩,
  ⟨(some 64), .pick (.t 60) (.k (.d (.b true))) (.t 63), (some (56, true)), 0⟩,
  ⟨(some 65), .pick (.t 56) (.t 64) (.k (.d (.b false))), none, 0⟩,
  ⟨(some 2), .mv (.t 65), none, 0⟩]) (
.ret)) (.seq (.region false [
  ⟨(some 67), .bin .eql (.t 33) (.k (.d (.i .i64 3))), none, 0⟩,
  ⟨(some 66), .mv (.t 67), none, 0⟩]) (
.cond (.t 66) (
.seq (.region false [
  ⟨(some 68), .fa 1 (.t 1), none, 0⟩,
  ⟨(some 69), .ld false 1 (.t 68), none, 0⟩,
  ⟨(some 70), .bin .eql (.t 69) (.k (.d (.i .i64 0))), none, 0⟩,
  ⟨(some 71), .mv (.t 70), none, 0⟩,
  ⟨(some 72), .fa 3 (.t 1), (some (71, true)), 0⟩,
  ⟨(some 73), .ld false 1 (.t 72), (some (71, true)), 0⟩,
  ⟨(some 74), .len 0 (.t 73), (some (71, true)), 0⟩,
  ⟨(some 75), .bin .eql (.t 74) (.k (.d (.i .i64 0))), (some (71, true)), 0⟩,
  ⟨(some 76), .pick (.t 71) (.t 75) (.k (.d (.b false))), none, 0⟩,
  ⟨(some 2), .mv (.t 76), none, 0⟩]) (
.ret)) (.seq (.region false [
  ⟨(some 78), .bin .eql (.t 33) (.k (.d (.i .i64 7))), none, 0⟩,
  ⟨(some 77), .mv (.t 78), none, 0⟩]) (
.cond (.t 77) (
.seq (.region false [
  ⟨(some 79), .fa 2 (.t 1), none, 0⟩,
  ⟨(some 80), .ld false 1 (.t 79), none, 0⟩,
  ⟨(some 81), .bin .eql (.t 80) (.k (.d (.s []))), none, 0⟩,
  ⟨(some 82), .mv (.t 81), none, 0⟩,
  ⟨(some 83), .fa 3 (.t 1), (some (82, true)), 0⟩,
  ⟨(some 84), .ld false 1 (.t 83), (some (82, true)), 0⟩,
  ⟨(some 85), .len 0 (.t 84), (some (82, true)), 0⟩,
  ⟨(some 86), .bin .eql (.t 85) (.k (.d (.i .i64 0))), (some (82, true)), 0⟩,
  ⟨(some 87), .pick (.t 82) (.t 86) (.k (.d (.b false))), none, 0⟩,
  ⟨(some 88), .mv (.t 87), none, 0⟩,
  ⟨(some 89), .fa 1 (.t 1), (some (88, true)), 0⟩,
  ⟨(some 90), .ld false 1 (.t 89), (some (88, true)), 0⟩,
  ⟨(some 91), .bin .geq (.t 90) (.k (.d (.i .i64 1))), (some (88, true)), 0⟩,
  ⟨(some 92), .pick (.t 88) (.t 91) (.k (.d (.b false))), none, 0⟩,
  ⟨(some 93), .mv (.t 92), none, 0⟩,
  ⟨(some 94), .fa 1 (.t 1), (some (93, true)), 0⟩,
  ⟨(some 95), .ld false 1 (.t 94), (some (93, true)), 0⟩,
  ⟨(some 96), .bin .leq (.t 95) (.k (.d (.i .i64 13))), (some (93, true)), 0⟩,
  ⟨(some 97), .pick (.t 93) (.t 96) (.k (.d (.b false))), none, 0⟩,
  ⟨(some 2), .mv (.t 97), none, 0⟩]) (
.ret)) (.skip))))))))))) (
.seq (.seq (.region false [
  ⟨(some 98), .fa 1 (.t 1), none, 0⟩,
  ⟨(some 99), .ld false 1 (.t 98), none, 0⟩,
  ⟨(some 100), .bin .neq (.t 99) (.k (.d (.i .i64 0))), none, 0⟩,
  ⟨(some 101), .mv (.t 100), none, 0⟩,
  ⟨(some 102), .fa 2 (.t 1), (some (101, false)), 0⟩,
  ⟨(some 103), .ld false 1 (.t 102), (some (101, false)), 0⟩,
  ⟨(some 104), .bin .neq (.t 103) (.k (.d (.s []))), (some (101, false)), 0⟩,
  ⟨(some 105), .pick (.t 101) (.k (.d (.b true))) (.t 104), none, 0⟩,
  ⟨(some 106), .mv (.t 105), none, 0⟩,
  ⟨(some 107), .fa 0 (.t 1), (some (106, false)), 0⟩,
  ⟨(some 108), .ld false 1 (.t 107), (some (106, false)), 0⟩,
  ⟨(some 109), .bin .lss (.t 108) (.k (.d (.i .i64 4))), (some (106, false)), 0⟩,
  ⟨(some 110), .pick (.t 106) (.k (.d (.b true))) (.t 109), none, 0⟩,
  ⟨(some 111), .mv (.t 110), none, 0⟩,
  ⟨(some 112), .fa 0 (.t 1), (some (111, false)), 0⟩,
  ⟨(some 113), .ld false 1 (.t 112), (some (111, false)), 0⟩,
  ⟨(some 114), .bin .gtr (.t 113) (.k (.d (.i .i64 6))), (some (111, false)), 0⟩,
  ⟨(some 115), .pick (.t 111) (.k (.d (.b true))) (.t 114), none, 0⟩]) (
.cond (.t 115) (
.seq (.region false [
  ⟨(some 2), .mv (.k (.d (.b false))), none, 0⟩]) (
.ret)) (.skip))) (
.seq (.seq (.region false [
  ⟨(some 4), .mv (.k (.d (.i .i64 0))), none, 0⟩]) (
.block 3 (.loop ⟨[1, 4], [], [], [], [], true⟩ (.seq (.seq (.region false [
  ⟨(some 116), .mv (.t 4), none, 0⟩,
  ⟨(some 117), .fa 3 (.t 1), none, 0⟩,
  ⟨(some 118), .ld false 1 (.t 117), none, 0⟩,
  ⟨(some 119), .len 0 (.t 118), none, 0⟩,
  ⟨(some 120), .bin .lss (.t 116) (.t 119), none, 0⟩]) (
.cond (.t 120) (
.skip) (.exit 3))) (
.seq (.block 4 (.seq (.region false [
  ⟨(some 123), .fa 3 (.t 1), none, 0⟩,
  ⟨(some 124), .ld false 1 (.t 123), none, 0⟩,
  ⟨(some 125), .mv (.t 4), none, 0⟩,
  ⟨(some 126), .ia 4 (.t 124) (.t 125), none, 0⟩,
  ⟨(some 127), .ld true 4 (.t 126), none, 0⟩,
  ⟨(some 5), .zero (.agg [(.d (.i .i64 0)), (.d (.i .i64 0)), (.d (.s [])), (.nil 4)]), none, 0⟩,
  ⟨none, .st 4 (.t 5) (.t 127), none, 0⟩]) (
.seq (.seq (.region true [
  ⟨(some 128), .fa 0 (.t 1), none, 0⟩,
  ⟨(some 129), .ld false 1 (.t 128), none, 1⟩,
  ⟨(some 130), .bin .eql (.t 129) (.k (.d (.i .i64 5))), none, 3⟩,
  ⟨(some 131), .mv (.t 130), none, 7⟩,
  ⟨(some 132), .mv (.t 4), (some (131, true)), 15⟩,
  ⟨(some 133), .bin .gtr (.t 132) (.k (.d (.i .i64 0))), (some (131, true)), 31⟩,
  ⟨(some 134), .pick (.t 131) (.t 133) (.k (.d (.b false))), none, 63⟩,
  ⟨(some 135), .mv (.t 134), none, 127⟩,
  ⟨(some 136), .fa 3 (.t 1), (some (135, true)), 255⟩,
  ⟨(some 137), .ld false 1 (.t 136), (some (135, true)), 511⟩,
  ⟨(some 138), .mv (.t 4), (some (135, true)), 255⟩,
  ⟨(some 139), .bin .sub (.t 138) (.k (.d (.i .i64 1))), (some (135, true)), 1279⟩,
  ⟨(some 140), .ia 4 (.t 137) (.t 139), (some (135, true)), 4095⟩,
  ⟨(some 141), .ld true 4 (.t 140), (some (135, true)), 8191⟩,
  ⟨(some 142), .ld true 4 (.t 5), (some (135, true)), 255⟩,
  ⟨(some 143), .call 115 [(.t 141), (.t 142)] 0 true, (some (135, true)), 32767⟩,
  ⟨(some 144), .bin .geq (.t 143) (.k (.d (.i .i64 0))), (some (135, true)), 65535⟩,
  ⟨(some 145), .pick (.t 135) (.t 144) (.k (.d (.b false))), none, 131071⟩]) (
.cond (.t 145) (
.seq (.region false [
  ⟨(some 2), .mv (.k (.d (.b false))), none, 0⟩]) (
.ret)) (.skip))) (
.seq (.region true [
  ⟨(some 146), .fa 0 (.t 1), none, 0⟩,
  ⟨(some 147), .ld false 1 (.t 146), none, 1⟩,
  ⟨(some 148), .bin .eql (.t 147) (.k (.d (.i .i64 6))), none, 3⟩,
  ⟨(some 149), .mv (.t 148), none, 7⟩,
  ⟨(some 150), .fa 0 (.t 5), (some (149, true)), 15⟩,
  ⟨(some 151), .ld false 1 (.t 150), (some (149, true)), 31⟩,
  ⟨(some 152), .bin .neq (.t 151) (.k (.d (.i .i64 4))), (some (149, true)), 63⟩,
  ⟨(some 153), .mv (.t 152), (some (149, true)), 127⟩,
  ⟨(some 154), .fa 3 (.t 5), (some (153, false)), 255⟩,
  ⟨(some 155), .ld false 1 (.t 154), (some (153, false)), 511⟩,
  ⟨(some 156), .len 0 (.t 155), (some (153, false)), 1023⟩,
  ⟨(some 157), .bin .neq (.t 156) (.k (.d (.i .i64 2))), (some (153, false)), 2047⟩,
  ⟨(some 158), .pick (.t 153) (.k (.d (.b true))) (.t 157), (some (149, true)), 4095⟩,
  ⟨(some 159), .mv (.t 158), (some (149, true)), 8191⟩,
  ⟨(some 160), .fa 3 (.t 5), (some (159, false)), 16383⟩,
  ⟨(some 161), .ld false 1 (.t 160), (some (159, false)), 32767⟩,
  ⟨(some 162), .ia 4 (.t 161) (.k (.d (.i .i64 0))), (some (159, false)), 65535⟩,
  ⟨(some 163), .fa 0 (.t 162), (some (159, false)), 131071⟩,
  ⟨(some 164), .ld false 1 (.t 163), (some (159, false)), 262143⟩,
  ⟨(some 165), .bin .neq (.t 164) (.k (.d (.i .i64 3))), (some (159, false)), 524287⟩,
  ⟨(some 166), .pick (.t 159) (.k (.d (.b true))) (.t 165), (some (149, true)), 1048575⟩,
  ⟨(some 167), .mv (.t 166), (some (149, true)), 2097151⟩,
  ⟨(some 168), .mv (.t 4), (some (167, false)), 4194303⟩,
  ⟨(some 169), .bin .gtr (.t 168) (.k (.d (.i .i64 0))), (some (167, false)), 8388607⟩,
  ⟨(some 170), .mv (.t 169), (some (167, false)), 16777215⟩,
  ⟨(some 171), .fa 3 (.t 1), (some (170, true)), 33554431⟩,
  ⟨(some 172), .ld false 1 (.t 171), (some (170, true)), 67108863⟩,
  ⟨(some 173), .mv (.t 4), (some (170, true)), 33554431⟩,
  ⟨(some 174), .bin .sub (.t 173) (.k (.d (.i .i64 1))), (some (170, true)), 167772159⟩,
  ⟨(some 175), .ia 4 (.t 172) (.t 174), (some (170, true)), 536870911⟩,
  ⟨(some 176), .fa 3 (.t 175), (some (170, true)), 1073741823⟩,
  ⟨(some 177), .ld false 1 (.t 176), (some (170, true)), 2147483647⟩,
  ⟨(some 178), .ia 4 (.t 177) (.k (.d (.i .i64 0))), (some (170, true)), 4294967295⟩,
  ⟨(some 179), .fa 2 (.t 178), (some (170, true)), 8589934591⟩,
  ⟨(some 180), .ld false 1 (.t 179), (some (170, true)), 17179869183⟩,
  ⟨(some 181), .fa 3 (.t 5), (some (170, true)), 33554431⟩,
  ⟨(some 182), .ld false 1 (.t 181), (some (170, true)), 34393292799⟩,
  ⟨(some 183), .ia 4 (.t 182) (.k (.d (.i .i64 0))), (some (170, true)), 103112769535⟩,
  ⟨(some 184), .fa 2 (.t 183), (some (170, true)), 240551723007⟩,
  ⟨(some 185), .ld false 1 (.t 184), (some (170, true)), 515429629951⟩,
  ⟨(some 186), .bin .geq (.t 180) (.t 185), (some (170, true)), 1099511627775⟩,
  ⟨(some 187), .pick (.t 170) (.t 186) (.k (.d (.b false))), (some (167, false)), 2199023255551⟩,
  ⟨(some 188), .pick (.t 167) (.k (.d (.b true))) (.t 187), (some (149, true)), 4398046511103⟩,
  ⟨(some 189), .pick (.t 149) (.t 188) (.k (.d (.b false))), none, 8796093022207⟩]) (
.cond (.t 189) (
.seq (.region false [
  ⟨(some 2), .mv (.k (.d (.b false))), none, 0⟩]) (
.ret)) (.skip)))))) (
.region false [
  ⟨(some 121), .mv (.t 4), none, 0⟩,
  ⟨(some 122), .bin .add (.t 121) (.k (.d (.i .i64 1))), none, 0⟩,
  ⟨(some 4), .mv (.t 122), none, 0⟩])))))) (
.seq (.region false [
  ⟨(some 2), .mv (.k (.d (.b true))), none, 0⟩]) (
.ret))))))), [.slot 2]⟩
def n110 : Notes := ⟨[⟨[1, 3], [], [], [], [], true⟩, ⟨[1, 4], [], [], [], [], true⟩], []⟩

/-- lemmata/val.May -/
def c111 : CFn := ⟨.seq (.region false [
  ⟨(some 1), .box (.t 0), none, 0⟩,
  ⟨(some 2), .mv (.k (.d (.b false))), none, 0⟩]) (
.seq (.region false [
  ⟨(some 3), .ld true 4 (.t 1), none, 0⟩,
  ⟨(some 4), .call 112 [(.t 3)] 0 true, none, 0⟩,
  ⟨(some 5), .bin .leq (.t 4) (.k (.d (.i .i64 60))), none, 0⟩,
  ⟨(some 6), .mv (.t 5), none, 0⟩,
  ⟨(some 7), .ld true 4 (.t 1), (some (6, true)), 0⟩,
  ⟨(some 8), .call 125 [(.t 7)] 0 true, (some (6, true)), 0⟩,
  ⟨(some 9), .pick (.t 6) (.t 8) (.k (.d (.b false))), none, 0⟩,
  ⟨(some 2), .mv (.t 9), none, 0⟩]) (
.ret)), [.slot 2]⟩
def n111 : Notes := ⟨[], []⟩

/-- lemmata/val.Size -/
def c112 : CFn := ⟨.seq (.region false [
  ⟨(some 1), .box (.t 0), none, 0⟩,
  ⟨(some 2), .mv (.k (.d (.i .i64 0))), none, 0⟩]) (
.seq (.region false [
  ⟨(some 6), .fa 2 (.t 1), none, 0⟩,
  ⟨(some 7), .ld false 1 (.t 6), none, 0⟩,
  ⟨(some 8), .len 1 (.t 7), none, 0⟩,
  ⟨(some 9), .bin .quo (.t 8) (.k (.d (.i .i64 16))), none, 0⟩,
  ⟨(some 10), .bin .add (.k (.d (.i .i64 1))) (.t 9), none, 0⟩,
  ⟨(some 3), .mv (.t 10), none, 0⟩]) (
.seq (.seq (.region false [
  ⟨(some 11), .fa 3 (.t 1), none, 0⟩,
  ⟨(some 12), .ld false 1 (.t 11), none, 0⟩,
  ⟨(some 13), .len 0 (.t 12), none, 0⟩,
  ⟨(some 14), .mv (.k (.d (.i .i64 0))), none, 0⟩]) (
.block 0 (.loop ⟨[3, 12, 13, 14], [], [], [], [], true⟩ (.seq (.region false [
  ⟨(some 15), .bin .lss (.t 14) (.t 13), none, 0⟩]) (
.seq (.cond (.t 15) (
.skip) (.exit 0)) (
.seq (.block 1 (.seq (.region false [
  ⟨(some 16), .ia 4 (.t 12) (.t 14), none, 0⟩,
  ⟨(some 17), .ld true 4 (.t 16), none, 0⟩,
  ⟨(some 5), .zero (.agg [(.d (.i .i64 0)), (.d (.i .i64 0)), (.d (.s [])), (.nil 4)]), none, 0⟩,
  ⟨none, .st 4 (.t 5) (.t 17), none, 0⟩]) (
.region false [
  ⟨(some 18), .mv (.t 3), none, 0⟩,
  ⟨(some 19), .ld true 4 (.t 5), none, 0⟩,
  ⟨(some 20), .call 112 [(.t 19)] 0 true, none, 0⟩,
  ⟨(some 21), .bin .add (.t 18) (.t 20), none, 0⟩,
  ⟨(some 3), .mv (.t 21), none, 0⟩]))) (
.region false [
  ⟨(some 22), .bin .add (.t 14) (.k (.d (.i .i64 1))), none, 0⟩,
  ⟨(some 14), .mv (.t 22), none, 0⟩]))))))) (
.seq (.region false [
  ⟨(some 23), .mv (.t 3), none, 0⟩,
  ⟨(some 2), .mv (.t 23), none, 0⟩]) (
.ret)))), [.slot 2]⟩
def n112 : Notes := ⟨[⟨[3, 12, 13, 14], [], [], [], [], true⟩], []⟩

/-- lemmata/lemmataref1.Size -/
def c113 : CFn := ⟨.seq (.region false [
  ⟨(some 1), .box (.t 0), none, 0⟩,
  ⟨(some 2), .mv (.k (.d (.i .i64 0))), none, 0⟩]) (
.seq (.region false [
  ⟨(some 5), .fa 2 (.t 1), none, 0⟩,
  ⟨(some 6), .ld false 1 (.t 5), none, 0⟩,
  ⟨(some 7), .len 1 (.t 6), none, 0⟩,
  ⟨(some 8), .bin .quo (.t 7) (.k (.d (.i .i64 16))), none, 0⟩,
  ⟨(some 9), .bin .add (.k (.d (.i .i64 1))) (.t 8), none, 0⟩,
  ⟨(some 3), .mv (.t 9), none, 0⟩]) (
.seq (.seq (.region false [
  ⟨(some 4), .mv (.k (.d (.i .i64 0))), none, 0⟩]) (
.block 0 (.loop ⟨[1, 3, 4], [], [], [], [], true⟩ (.seq (.seq (.region false [
  ⟨(some 10), .mv (.t 4), none, 0⟩,
  ⟨(some 11), .fa 3 (.t 1), none, 0⟩,
  ⟨(some 12), .ld false 1 (.t 11), none, 0⟩,
  ⟨(some 13), .len 0 (.t 12), none, 0⟩,
  ⟨(some 14), .bin .lss (.t 10) (.t 13), none, 0⟩]) (
.cond (.t 14) (
.skip) (.exit 0))) (
.seq (.block 1 (.region false [
  ⟨(some 17), .mv (.t 3), none, 0⟩,
  ⟨(some 18), .fa 3 (.t 1), none, 0⟩,
  ⟨(some 19), .ld false 1 (.t 18), none, 0⟩,
  ⟨(some 20), .mv (.t 4), none, 0⟩,
  ⟨(some 21), .ia 4 (.t 19) (.t 20), none, 0⟩,
  ⟨(some 22), .ld true 4 (.t 21), none, 0⟩,
  ⟨(some 23), .call 113 [(.t 22)] 0 true, none, 0⟩,
  ⟨(some 24), .bin .add (.t 17) (.t 23), none, 0⟩,
  ⟨(some 3), .mv (.t 24), none, 0⟩])) (
.region false [
  ⟨(some 15), .mv (.t 4), none, 0⟩,
  ⟨(some 16), .bin .add (.t 15) (.k (.d (.i .i64 1))), none, 0⟩,
  ⟨(some 4), .mv (.t 16), none, 0⟩])))))) (
.seq (.region false [
  ⟨(some 25), .mv (.t 3), none, 0⟩,
  ⟨(some 2), .mv (.t 25), none, 0⟩]) (
.ret)))), [.slot 2]⟩
def n113 : Notes := ⟨[⟨[1, 3, 4], [], [], [], [], true⟩], []⟩

/-- lemmata/val.Compare -/
def c114 : CFn := ⟨.seq (.region false [
  ⟨(some 2), .box (.t 0), none, 0⟩,
  ⟨(some 3), .box (.t 1), none, 0⟩,
  ⟨(some 4), .mv (.k (.d (.i .i64 0))), none, 0⟩]) (
.seq (.region true [
  ⟨(some 5), .fa 0 (.t 2), none, 0⟩,
  ⟨(some 6), .ld false 1 (.t 5), none, 1⟩,
  ⟨(some 7), .fa 0 (.t 3), none, 0⟩,
  ⟨(some 8), .ld false 1 (.t 7), none, 4⟩,
  ⟨(some 9), .call 127 [(.t 6), (.t 8)] 0 true, none, 15⟩,
  ⟨(some 10), .fa 1 (.t 2), none, 0⟩,
  ⟨(some 11), .ld false 1 (.t 10), none, 32⟩,
  ⟨(some 12), .fa 1 (.t 3), none, 0⟩,
  ⟨(some 13), .ld false 1 (.t 12), none, 128⟩,
  ⟨(some 14), .call 128 [(.t 11), (.t 13)] 0 true, none, 511⟩,
  ⟨(some 15), .fa 2 (.t 2), none, 0⟩,
  ⟨(some 16), .ld false 1 (.t 15), none, 1024⟩,
  ⟨(some 17), .fa 2 (.t 3), none, 0⟩,
  ⟨(some 18), .ld false 1 (.t 17), none, 4096⟩,
  ⟨(some 19), .call 129 [(.t 16), (.t 18)] 0 true, none, 16383⟩,
  ⟨(some 20), .fa 3 (.t 2), none, 0⟩,
  ⟨(some 21), .ld false 1 (.t 20), none, 32768⟩,
  ⟨(some 22), .fa 3 (.t 3), none, 0⟩,
  ⟨(some 23), .ld false 1 (.t 22), none, 131072⟩,
  ⟨(some 24), .call 130 [(.t 21), (.t 23), (.k (.d (.f 114 [] [])))] 4 true, none, 524287⟩,
  ⟨(some 25), .bsl 1 4 [(.i .i64 0)] [(0, (.t 9)), (1, (.t 14)), (2, (.t 19)), (3, (.t 24))], none, 1048575⟩,
  ⟨(some 26), .call 126 [(.t 25)] 0 true, none, 2097151⟩,
  ⟨(some 4), .mv (.t 26), none, 4194303⟩]) (
.ret)), [.slot 4]⟩
def n114 : Notes := ⟨[], []⟩

/-- lemmata/lemmataref1.Compare -/
def c115 : CFn := ⟨.seq (.region false [
  ⟨(some 2), .box (.t 0), none, 0⟩,
  ⟨(some 3), .box (.t 1), none, 0⟩,
  ⟨(some 4), .mv (.k (.d (.i .i64 0))), none, 0⟩]) (
.seq (.block 0 (.seq (.region false [
  ⟨(some 8), .fa 0 (.t 2), none, 0⟩,
  ⟨(some 9), .ld false 1 (.t 8), none, 0⟩,
  ⟨(some 10), .fa 0 (.t 3), none, 0⟩,
  ⟨(some 11), .ld false 1 (.t 10), none, 0⟩,
  ⟨(some 12), .bin .neq (.t 9) (.t 11), none, 0⟩,
  ⟨(some 7), .mv (.t 12), none, 0⟩]) (
.cond (.t 7) (
.seq (.region false [
  ⟨(some 13), .fa 0 (.t 2), none, 0⟩,
  ⟨(some 14), .ld false 1 (.t 13), none, 0⟩,
  ⟨(some 15), .fa 0 (.t 3), none, 0⟩,
  ⟨(some 16), .ld false 1 (.t 15), none, 0⟩,
  ⟨(some 17), .bin .lss (.t 14) (.t 16), none, 0⟩,
  ⟨(some 18), .call 131 [(.t 17)] 0 true, none, 0⟩,
  ⟨(some 4), .mv (.t 18), none, 0⟩]) (
.ret)) (.seq (.region false [
  ⟨(some 20), .fa 1 (.t 2), none, 0⟩,
  ⟨(some 21), .ld false 1 (.t 20), none, 0⟩,
  ⟨(some 22), .fa 1 (.t 3), none, 0⟩,
  ⟨(some 23), .ld false 1 (.t 22), none, 0⟩,
  ⟨(some 24), .bin .neq (.t 21) (.t 23), none, 0⟩,
  ⟨(some 19), .mv (.t 24), none, 0⟩]) (
.cond (.t 19) (
.seq (.region false [
  ⟨(some 25), .fa 1 (.t 2), none, 0⟩,
  ⟨(some 26), .ld false 1 (.t 25), none, 0⟩,
  ⟨(some 27), .fa 1 (.t 3), none, 0⟩,
  ⟨(some 28), .ld false 1 (.t 27), none, 0⟩,
  ⟨(some 29), .bin .lss (.t 26) (.t 28), none, 0⟩,
  ⟨(some 30), .call 131 [(.t 29)] 0 true, none, 0⟩,
  ⟨(some 4), .mv (.t 30), none, 0⟩]) (
.ret)) (.seq (.region false [
  ⟨(some 32), .fa 2 (.t 2), none, 0⟩,
  ⟨(some 33), .ld false 1 (.t 32), none, 0⟩,
  ⟨(some 34), .fa 2 (.t 3), none, 0⟩,
  ⟨(some 35), .ld false 1 (.t 34), none, 0⟩,
  ⟨(some 36), .bin .neq (.t 33) (.t 35), none, 0⟩,
  ⟨(some 31), .mv (.t 36), none, 0⟩]) (
.cond (.t 31) (
.seq (.region false [
  ⟨(some 37), .fa 2 (.t 2), none, 0⟩,
  ⟨(some 38), .ld false 1 (.t 37), none, 0⟩,
  ⟨(some 39), .fa 2 (.t 3), none, 0⟩,
  ⟨(some 40), .ld false 1 (.t 39), none, 0⟩,
  ⟨(some 41), .bin .lss (.t 38) (.t 40), none, 0⟩,
  ⟨(some 42), .call 131 [(.t 41)] 0 true, none, 0⟩,
  ⟨(some 4), .mv (.t 42), none, 0⟩]) (
.ret)) (.skip)))))))) (
.seq (.seq (.region false [
  ⟨(some 5), .mv (.k (.d (.i .i64 0))), none, 0⟩]) (
.block 1 (.loop ⟨[2, 3, 5], [], [], [], [], true⟩ (.seq (.seq (.region false [
  ⟨(some 43), .mv (.t 5), none, 0⟩,
  ⟨(some 44), .fa 3 (.t 2), none, 0⟩,
  ⟨(some 45), .ld false 1 (.t 44), none, 0⟩,
  ⟨(some 46), .len 0 (.t 45), none, 0⟩,
  ⟨(some 47), .bin .lss (.t 43) (.t 46), none, 0⟩,
  ⟨(some 48), .mv (.t 47), none, 0⟩,
  ⟨(some 49), .mv (.t 5), (some (48, true)), 0⟩,
  ⟨(some 50), .fa 3 (.t 3), (some (48, true)), 0⟩,
  ⟨(some 51), .ld false 1 (.t 50), (some (48, true)), 0⟩,
  ⟨(some 52), .len 0 (.t 51), (some (48, true)), 0⟩,
  ⟨(some 53), .bin .lss (.t 49) (.t 52), (some (48, true)), 0⟩,
  ⟨(some 54), .pick (.t 48) (.t 53) (.k (.d (.b false))), none, 0⟩]) (
.cond (.t 54) (
.skip) (.exit 1))) (
.seq (.block 2 (.seq (.region true [
  ⟨(some 57), .fa 3 (.t 2), none, 0⟩,
  ⟨(some 58), .ld false 1 (.t 57), none, 1⟩,
  ⟨(some 59), .mv (.t 5), none, 0⟩,
  ⟨(some 60), .ia 4 (.t 58) (.t 59), none, 7⟩,
  ⟨(some 61), .ld true 4 (.t 60), none, 15⟩,
  ⟨(some 62), .fa 3 (.t 3), none, 0⟩,
  ⟨(some 63), .ld false 1 (.t 62), none, 32⟩,
  ⟨(some 64), .mv (.t 5), none, 0⟩,
  ⟨(some 65), .ia 4 (.t 63) (.t 64), none, 224⟩,
  ⟨(some 66), .ld true 4 (.t 65), none, 480⟩,
  ⟨(some 67), .call 115 [(.t 61), (.t 66)] 0 true, none, 1023⟩,
  ⟨(some 6), .mv (.t 67), none, 2047⟩]) (
.seq (.region false [
  ⟨(some 68), .mv (.t 6), none, 0⟩,
  ⟨(some 69), .bin .neq (.t 68) (.k (.d (.i .i64 0))), none, 0⟩]) (
.cond (.t 69) (
.seq (.region false [
  ⟨(some 70), .mv (.t 6), none, 0⟩,
  ⟨(some 4), .mv (.t 70), none, 0⟩]) (
.ret)) (.skip))))) (
.region false [
  ⟨(some 55), .mv (.t 5), none, 0⟩,
  ⟨(some 56), .bin .add (.t 55) (.k (.d (.i .i64 1))), none, 0⟩,
  ⟨(some 5), .mv (.t 56), none, 0⟩])))))) (
.seq (.seq (.region false [
  ⟨(some 71), .fa 3 (.t 2), none, 0⟩,
  ⟨(some 72), .ld false 1 (.t 71), none, 0⟩,
  ⟨(some 73), .len 0 (.t 72), none, 0⟩,
  ⟨(some 74), .fa 3 (.t 3), none, 0⟩,
  ⟨(some 75), .ld false 1 (.t 74), none, 0⟩,
  ⟨(some 76), .len 0 (.t 75), none, 0⟩,
  ⟨(some 77), .bin .eql (.t 73) (.t 76), none, 0⟩]) (
.cond (.t 77) (
.seq (.region false [
  ⟨(some 4), .mv (.k (.d (.i .i64 0))), none, 0⟩]) (
.ret)) (.skip))) (
.seq (.region false [
  ⟨(some 78), .fa 3 (.t 2), none, 0⟩,
  ⟨(some 79), .ld false 1 (.t 78), none, 0⟩,
  ⟨(some 80), .len 0 (.t 79), none, 0⟩,
  ⟨(some 81), .fa 3 (.t 3), none, 0⟩,
  ⟨(some 82), .ld false 1 (.t 81), none, 0⟩,
  ⟨(some 83), .len 0 (.t 82), none, 0⟩,
  ⟨(some 84), .bin .lss (.t 80) (.t 83), none, 0⟩,
  ⟨(some 85), .call 131 [(.t 84)] 0 true, none, 0⟩,
  ⟨(some 4), .mv (.t 85), none, 0⟩]) (
.ret))))), [.slot 4]⟩
def n115 : Notes := ⟨[⟨[2, 3, 5], [], [], [], [], true⟩], []⟩

/-- lemmata/val.Ins -/
def c116 : CFn := ⟨.seq (.region false [
  ⟨(some 3), .box (.t 1), none, 0⟩,
  ⟨(some 4), .mv (.k (.nil 4)), none, 0⟩]) (
.seq (.region false [
  ⟨(some 8), .mv (.t 0), none, 0⟩,
  ⟨(some 9), .build [(.d (.i .i64 0)), (.d (.i .i64 0)), (.d (.s [])), (.nil 4)] [(3, 1, (.t 8))], none, 0⟩,
  ⟨(some 10), .call 132 [(.t 9)] 4 false, none, 0⟩,
  ⟨(some 11), .fl false 3 1 (.t 10), none, 0⟩,
  ⟨(some 5), .mv (.t 11), none, 0⟩]) (
.seq (.region false [
  ⟨(some 13), .mv (.t 0), none, 0⟩,
  ⟨(some 14), .ld true 4 (.t 3), none, 0⟩,
  ⟨(some 15), .call 133 [(.t 13), (.t 14), (.k (.d (.f 114 [] [])))] 4 true, none, 0⟩,
  ⟨(some 12), .mv (.t 15), none, 0⟩,
  ⟨(some 16), .ext (.t 12) 0, none, 0⟩,
  ⟨(some 17), .ext (.t 12) 1, none, 0⟩,
  ⟨(some 6), .mv (.t 16), none, 0⟩,
  ⟨(some 7), .mv (.t 17), none, 0⟩]) (
.seq (.seq (.region false [
  ⟨(some 18), .mv (.t 7), none, 0⟩]) (
.cond (.t 18) (
.seq (.region false [
  ⟨(some 19), .mv (.t 5), none, 0⟩,
  ⟨(some 4), .mv (.t 19), none, 0⟩]) (
.ret)) (.skip))) (
.seq (.region false [
  ⟨(some 20), .mv (.t 5), none, 0⟩,
  ⟨(some 21), .mv (.t 6), none, 0⟩,
  ⟨(some 22), .ld true 4 (.t 3), none, 0⟩,
  ⟨(some 23), .call 132 [(.t 22)] 0 true, none, 0⟩,
  ⟨(some 24), .bsl 4 1 [(.i .i64 0), (.i .i64 0), (.s []), (.l 4 [])] [(0, (.t 23))], none, 0⟩,
  ⟨(some 25), .call 134 [(.t 20), (.t 21), (.t 24)] 0 true, none, 0⟩,
  ⟨(some 4), .mv (.t 25), none, 0⟩]) (
.ret))))), [.slot 4]⟩
def n116 : Notes := ⟨[], [false, false, false, false, true]⟩

/-- lemmata/lemmataref1.Ins -/
def c117 : CFn := ⟨.seq (.region false [
  ⟨(some 3), .box (.t 1), none, 0⟩,
  ⟨(some 4), .mv (.k (.nil 4)), none, 0⟩]) (
.seq (.region false [
  ⟨(some 5), .mv (.k (.d (.i .i64 0))), none, 0⟩]) (
.seq (.block 0 (.loop ⟨[0, 3, 5], [], [], [], [], true⟩ (.seq (.seq (.region true [
  ⟨(some 6), .mv (.t 5), none, 0⟩,
  ⟨(some 7), .mv (.t 0), none, 0⟩,
  ⟨(some 8), .len 0 (.t 7), none, 2⟩,
  ⟨(some 9), .bin .lss (.t 6) (.t 8), none, 7⟩,
  ⟨(some 10), .mv (.t 9), none, 15⟩,
  ⟨(some 11), .mv (.t 0), (some (10, true)), 31⟩,
  ⟨(some 12), .mv (.t 5), (some (10, true)), 31⟩,
  ⟨(some 13), .ia 4 (.t 11) (.t 12), (some (10, true)), 127⟩,
  ⟨(some 14), .ld true 4 (.t 13), (some (10, true)), 255⟩,
  ⟨(some 15), .ld true 4 (.t 3), (some (10, true)), 31⟩,
  ⟨(some 16), .call 115 [(.t 14), (.t 15)] 0 true, (some (10, true)), 1023⟩,
  ⟨(some 17), .bin .lss (.t 16) (.k (.d (.i .i64 0))), (some (10, true)), 2047⟩,
  ⟨(some 18), .pick (.t 10) (.t 17) (.k (.d (.b false))), none, 4095⟩]) (
.cond (.t 18) (
.skip) (.exit 0))) (
.block 1 (.region false [
  ⟨(some 19), .mv (.t 5), none, 0⟩,
  ⟨(some 20), .bin .add (.t 19) (.k (.d (.i .i64 1))), none, 0⟩,
  ⟨(some 5), .mv (.t 20), none, 0⟩]))))) (
.seq (.seq (.region true [
  ⟨(some 21), .mv (.t 5), none, 0⟩,
  ⟨(some 22), .mv (.t 0), none, 0⟩,
  ⟨(some 23), .len 0 (.t 22), none, 2⟩,
  ⟨(some 24), .bin .lss (.t 21) (.t 23), none, 7⟩,
  ⟨(some 25), .mv (.t 24), none, 15⟩,
  ⟨(some 26), .mv (.t 0), (some (25, true)), 31⟩,
  ⟨(some 27), .mv (.t 5), (some (25, true)), 31⟩,
  ⟨(some 28), .ia 4 (.t 26) (.t 27), (some (25, true)), 127⟩,
  ⟨(some 29), .ld true 4 (.t 28), (some (25, true)), 255⟩,
  ⟨(some 30), .ld true 4 (.t 3), (some (25, true)), 31⟩,
  ⟨(some 31), .call 115 [(.t 29), (.t 30)] 0 true, (some (25, true)), 1023⟩,
  ⟨(some 32), .bin .eql (.t 31) (.k (.d (.i .i64 0))), (some (25, true)), 2047⟩,
  ⟨(some 33), .pick (.t 25) (.t 32) (.k (.d (.b false))), none, 4095⟩]) (
.cond (.t 33) (
.seq (.region false [
  ⟨(some 34), .bsl 4 0 [(.i .i64 0), (.i .i64 0), (.s []), (.l 4 [])] [], none, 0⟩,
  ⟨(some 35), .mv (.t 0), none, 0⟩,
  ⟨(some 36), .app 4 56 (.t 34) (.t 35), none, 0⟩,
  ⟨(some 4), .mv (.t 36), none, 0⟩]) (
.ret)) (.skip))) (
.seq (.region true [
  ⟨(some 37), .bsl 4 0 [(.i .i64 0), (.i .i64 0), (.s []), (.l 4 [])] [], none, 0⟩,
  ⟨(some 38), .mv (.t 0), none, 0⟩,
  ⟨(some 39), .mv (.t 5), none, 0⟩,
  ⟨(some 40), .slc 4 (.t 38) none (some (.t 39)), none, 6⟩,
  ⟨(some 41), .app 4 56 (.t 37) (.t 40), none, 15⟩,
  ⟨(some 42), .ld true 4 (.t 3), none, 0⟩,
  ⟨(some 43), .bsl 4 1 [(.i .i64 0), (.i .i64 0), (.s []), (.l 4 [])] [(0, (.t 42))], none, 32⟩,
  ⟨(some 44), .app 4 56 (.t 41) (.t 43), none, 127⟩,
  ⟨(some 45), .mv (.t 0), none, 0⟩,
  ⟨(some 46), .mv (.t 5), none, 0⟩,
  ⟨(some 47), .slc 4 (.t 45) (some (.t 46)) none, none, 768⟩,
  ⟨(some 48), .app 4 56 (.t 44) (.t 47), none, 2047⟩,
  ⟨(some 4), .mv (.t 48), none, 4095⟩]) (
.ret))))), [.slot 4]⟩
def n117 : Notes := ⟨[⟨[0, 3, 5], [], [], [], [], true⟩], []⟩

/-- lemmata/lemmataref1.SameVals -/
def c118 : CFn := ⟨.seq (.region false [
  ⟨(some 4), .mv (.k (.d (.b false))), none, 0⟩]) (
.seq (.region false [
  ⟨(some 5), .mv (.t 0), none, 0⟩,
  ⟨(some 6), .build [(.d (.i .i64 0)), (.d (.i .i64 0)), (.d (.s [])), (.nil 4)] [(3, 1, (.t 5))], none, 0⟩,
  ⟨(some 7), .mv (.t 1), none, 0⟩,
  ⟨(some 8), .build [(.d (.i .i64 0)), (.d (.i .i64 0)), (.d (.s [])), (.nil 4)] [(3, 1, (.t 7))], none, 0⟩,
  ⟨(some 9), .call 121 [(.t 6), (.t 8)] 0 true, none, 0⟩,
  ⟨(some 4), .mv (.t 9), none, 0⟩]) (
.ret)), [.slot 4]⟩
def n118 : Notes := ⟨[], []⟩

/-- lemmata/val.Find -/
def c119 : CFn := ⟨.seq (.region false [
  ⟨(some 4), .mv (.k (.d (.i .i64 0))), none, 0⟩,
  ⟨(some 5), .mv (.k (.d (.b false))), none, 0⟩]) (
.seq (.region false [
  ⟨(some 6), .mv (.t 0), none, 0⟩,
  ⟨(some 7), .mv (.t 1), none, 0⟩,
  ⟨(some 8), .call 135 [(.t 6), (.t 7), (.k (.d (.f 136 [] [])))] 4 true, none, 0⟩,
  ⟨(some 9), .ext (.t 8) 0, none, 0⟩,
  ⟨(some 10), .ext (.t 8) 1, none, 0⟩,
  ⟨(some 4), .mv (.t 9), none, 0⟩,
  ⟨(some 5), .mv (.t 10), none, 0⟩]) (
.ret)), [.slot 4, .slot 5]⟩
def n119 : Notes := ⟨[], []⟩

/-- lemmata/lemmataref1.Find -/
def c120 : CFn := ⟨.seq (.region false [
  ⟨(some 4), .mv (.k (.d (.i .i64 0))), none, 0⟩,
  ⟨(some 5), .mv (.k (.d (.b false))), none, 0⟩]) (
.seq (.region false [
  ⟨(some 6), .mv (.k (.d (.i .i64 0))), none, 0⟩]) (
.seq (.block 0 (.loop ⟨[0, 1, 6], [], [], [], [], true⟩ (.seq (.seq (.region false [
  ⟨(some 7), .mv (.t 6), none, 0⟩,
  ⟨(some 8), .mv (.t 0), none, 0⟩,
  ⟨(some 9), .len 0 (.t 8), none, 0⟩,
  ⟨(some 10), .bin .lss (.t 7) (.t 9), none, 0⟩,
  ⟨(some 11), .mv (.t 10), none, 0⟩,
  ⟨(some 12), .mv (.t 0), (some (11, true)), 0⟩,
  ⟨(some 13), .mv (.t 6), (some (11, true)), 0⟩,
  ⟨(some 14), .ia 4 (.t 12) (.t 13), (some (11, true)), 0⟩,
  ⟨(some 15), .ld true 4 (.t 14), (some (11, true)), 0⟩,
  ⟨(some 16), .call 138 [(.t 15)] 0 true, (some (11, true)), 0⟩,
  ⟨(some 17), .mv (.t 1), (some (11, true)), 0⟩,
  ⟨(some 18), .bin .lss (.t 16) (.t 17), (some (11, true)), 0⟩,
  ⟨(some 19), .pick (.t 11) (.t 18) (.k (.d (.b false))), none, 0⟩]) (
.cond (.t 19) (
.skip) (.exit 0))) (
.block 1 (.region false [
  ⟨(some 20), .mv (.t 6), none, 0⟩,
  ⟨(some 21), .bin .add (.t 20) (.k (.d (.i .i64 1))), none, 0⟩,
  ⟨(some 6), .mv (.t 21), none, 0⟩]))))) (
.seq (.region false [
  ⟨(some 22), .mv (.t 6), none, 0⟩,
  ⟨(some 23), .mv (.t 6), none, 0⟩,
  ⟨(some 24), .mv (.t 0), none, 0⟩,
  ⟨(some 25), .len 0 (.t 24), none, 0⟩,
  ⟨(some 26), .bin .lss (.t 23) (.t 25), none, 0⟩,
  ⟨(some 27), .mv (.t 26), none, 0⟩,
  ⟨(some 28), .mv (.t 0), (some (27, true)), 0⟩,
  ⟨(some 29), .mv (.t 6), (some (27, true)), 0⟩,
  ⟨(some 30), .ia 4 (.t 28) (.t 29), (some (27, true)), 0⟩,
  ⟨(some 31), .fa 3 (.t 30), (some (27, true)), 0⟩,
  ⟨(some 32), .ld false 1 (.t 31), (some (27, true)), 0⟩,
  ⟨(some 33), .len 0 (.t 32), (some (27, true)), 0⟩,
  ⟨(some 34), .bin .gtr (.t 33) (.k (.d (.i .i64 0))), (some (27, true)), 0⟩,
  ⟨(some 35), .pick (.t 27) (.t 34) (.k (.d (.b false))), none, 0⟩,
  ⟨(some 36), .mv (.t 35), none, 0⟩,
  ⟨(some 37), .mv (.t 0), (some (36, true)), 0⟩,
  ⟨(some 38), .mv (.t 6), (some (36, true)), 0⟩,
  ⟨(some 39), .ia 4 (.t 37) (.t 38), (some (36, true)), 0⟩,
  ⟨(some 40), .ld true 4 (.t 39), (some (36, true)), 0⟩,
  ⟨(some 41), .call 138 [(.t 40)] 0 true, (some (36, true)), 0⟩,
  ⟨(some 42), .mv (.t 1), (some (36, true)), 0⟩,
  ⟨(some 43), .bin .eql (.t 41) (.t 42), (some (36, true)), 0⟩,
  ⟨(some 44), .pick (.t 36) (.t 43) (.k (.d (.b false))), none, 0⟩,
  ⟨(some 4), .mv (.t 22), none, 0⟩,
  ⟨(some 5), .mv (.t 44), none, 0⟩]) (
.ret)))), [.slot 4, .slot 5]⟩
def n120 : Notes := ⟨[⟨[0, 1, 6], [], [], [], [], true⟩], []⟩

/-- lemmata/lemmataref1.Same -/
def c121 : CFn := ⟨.seq (.region false [
  ⟨(some 2), .box (.t 0), none, 0⟩,
  ⟨(some 3), .box (.t 1), none, 0⟩,
  ⟨(some 4), .mv (.k (.d (.b false))), none, 0⟩]) (
.seq (.region false [
  ⟨(some 5), .ld true 4 (.t 2), none, 0⟩,
  ⟨(some 6), .ld true 4 (.t 3), none, 0⟩,
  ⟨(some 7), .call 115 [(.t 5), (.t 6)] 0 true, none, 0⟩,
  ⟨(some 8), .bin .eql (.t 7) (.k (.d (.i .i64 0))), none, 0⟩,
  ⟨(some 4), .mv (.t 8), none, 0⟩]) (
.ret)), [.slot 4]⟩
def n121 : Notes := ⟨[], []⟩

/-- lemmata/lemmatalaw1.pairOf -/
def c122 : CFn := ⟨.seq (.region false [
  ⟨(some 2), .box (.t 0), none, 0⟩,
  ⟨(some 3), .box (.t 1), none, 0⟩,
  ⟨(some 4), .zero (.agg [(.d (.i .i64 0)), (.d (.i .i64 0)), (.d (.s [])), (.nil 4)]), none, 0⟩]) (
.seq (.region false [
  ⟨(some 5), .ld true 4 (.t 2), none, 0⟩,
  ⟨(some 6), .ld true 4 (.t 3), none, 0⟩,
  ⟨(some 7), .bsl 4 2 [(.i .i64 0), (.i .i64 0), (.s []), (.l 4 [])] [(0, (.t 5)), (1, (.t 6))], none, 0⟩,
  ⟨(some 8), .build [(.d (.i .i64 0)), (.d (.i .i64 0)), (.d (.s [])), (.nil 4)] [(0, 1, (.k (.d (.i .i64 4)))), (3, 1, (.t 7))], none, 0⟩,
  ⟨none, .st 4 (.t 4) (.t 8), none, 0⟩]) (
.ret)), [.cell 4 true 4]⟩
def n122 : Notes := ⟨[], []⟩

/-- (*lemmata/lemmataplay.Picks).Num -/
def c123 : CFn := ⟨.seq (.region false [
  ⟨(some 4), .mv (.k (.d (.i .i64 0))), none, 0⟩]) (
.seq (.seq (.region true [
  ⟨(some 5), .mv (.t 0), none, 0⟩,
  ⟨(some 6), .nilc (.t 5), none, 1⟩,
  ⟨(some 7), .fa 1 (.t 6), none, 3⟩,
  ⟨(some 8), .ld false 1 (.t 7), none, 7⟩,
  ⟨(some 9), .mv (.t 0), none, 0⟩,
  ⟨(some 10), .nilc (.t 9), none, 16⟩,
  ⟨(some 11), .fa 0 (.t 10), none, 48⟩,
  ⟨(some 12), .ld false 1 (.t 11), none, 112⟩,
  ⟨(some 13), .len 0 (.t 12), none, 240⟩,
  ⟨(some 14), .bin .geq (.t 8) (.t 13), none, 511⟩]) (
.cond (.t 14) (
.seq (.region false [
  ⟨(some 4), .mv (.k (.d (.i .i64 0))), none, 0⟩]) (
.ret)) (.skip))) (
.seq (.region false [
  ⟨(some 15), .mv (.t 0), none, 0⟩,
  ⟨(some 16), .nilc (.t 15), none, 0⟩,
  ⟨(some 17), .fa 1 (.t 16), none, 0⟩,
  ⟨(some 18), .ld false 1 (.t 17), none, 0⟩,
  ⟨(some 19), .bin .add (.t 18) (.k (.d (.i .i64 1))), none, 0⟩,
  ⟨(some 20), .nilc (.t 15), none, 0⟩,
  ⟨(some 21), .fa 1 (.t 20), none, 0⟩,
  ⟨none, .st 1 (.t 21) (.t 19), none, 0⟩]) (
.seq (.region true [
  ⟨(some 22), .mv (.t 0), none, 0⟩,
  ⟨(some 23), .nilc (.t 22), none, 1⟩,
  ⟨(some 24), .fa 0 (.t 23), none, 3⟩,
  ⟨(some 25), .ld false 1 (.t 24), none, 7⟩,
  ⟨(some 26), .mv (.t 0), none, 0⟩,
  ⟨(some 27), .nilc (.t 26), none, 16⟩,
  ⟨(some 28), .fa 1 (.t 27), none, 48⟩,
  ⟨(some 29), .ld false 1 (.t 28), none, 112⟩,
  ⟨(some 30), .bin .sub (.t 29) (.k (.d (.i .i64 1))), none, 240⟩,
  ⟨(some 31), .ia 1 (.t 25) (.t 30), none, 511⟩,
  ⟨(some 32), .ld false 1 (.t 31), none, 1023⟩,
  ⟨(some 33), .conv .i64 (.t 32), none, 2047⟩,
  ⟨(some 34), .mv (.t 1), none, 0⟩,
  ⟨(some 35), .bin .rem (.t 33) (.t 34), none, 8191⟩,
  ⟨(some 4), .mv (.t 35), none, 16383⟩]) (
.ret)))), [.slot 4]⟩
def n123 : Notes := ⟨[], []⟩

/-- (*lemmata/lemmataplay.Picks).some -/
def c124 : CFn := ⟨.seq (.region false [
  ⟨(some 4), .mv (.k (.nil 4)), none, 0⟩]) (
.seq (.region false [
  ⟨(some 5), .mv (.k (.nil 4)), none, 0⟩]) (
.seq (.seq (.region false [
  ⟨(some 7), .mv (.t 0), none, 0⟩,
  ⟨(some 8), .call 123 [(.t 7), (.k (.d (.i .i64 4)))] 4 true, none, 0⟩,
  ⟨(some 6), .mv (.t 8), none, 0⟩]) (
.block 0 (.loop ⟨[0, 1, 5, 6], [5], [], [], [], true⟩ (.seq (.seq (.region false [
  ⟨(some 9), .mv (.t 6), none, 0⟩,
  ⟨(some 10), .bin .gtr (.t 9) (.k (.d (.i .i64 0))), none, 0⟩]) (
.cond (.t 10) (
.skip) (.exit 0))) (
.seq (.block 1 (.region false [
  ⟨(some 13), .mv (.t 5), none, 0⟩,
  ⟨(some 14), .mv (.t 0), none, 0⟩,
  ⟨(some 15), .mv (.t 1), none, 0⟩,
  ⟨(some 16), .bin .sub (.t 15) (.k (.d (.i .i64 1))), none, 0⟩,
  ⟨(some 17), .call 109 [(.t 14), (.t 16)] 4 true, none, 0⟩,
  ⟨(some 18), .bsl 4 1 [(.i .i64 0), (.i .i64 0), (.s []), (.l 4 [])] [(0, (.t 17))], none, 0⟩,
  ⟨(some 19), .app 4 56 (.t 13) (.t 18), none, 0⟩,
  ⟨(some 5), .mv (.t 19), none, 0⟩])) (
.region false [
  ⟨(some 11), .mv (.t 6), none, 0⟩,
  ⟨(some 12), .bin .sub (.t 11) (.k (.d (.i .i64 1))), none, 0⟩,
  ⟨(some 6), .mv (.t 12), none, 0⟩])))))) (
.seq (.region false [
  ⟨(some 20), .mv (.t 5), none, 0⟩,
  ⟨(some 4), .mv (.t 20), none, 0⟩]) (
.ret)))), [.slot 4]⟩
def n124 : Notes := ⟨[⟨[0, 1, 5, 6], [5], [], [], [], true⟩], []⟩

/-- lemmata/val.may -/
def c125 : CFn := ⟨.seq (.region false [
  ⟨(some 1), .box (.t 0), none, 0⟩,
  ⟨(some 2), .mv (.k (.d (.b false))), none, 0⟩]) (
.seq (.seq (.region false [
  ⟨(some 3), .fa 0 (.t 1), none, 0⟩,
  ⟨(some 4), .ld false 1 (.t 3), none, 0⟩,
  ⟨(some 5), .bin .lss (.t 4) (.k (.d (.i .i64 1))), none, 0⟩,
  ⟨(some 6), .mv (.t 5), none, 0⟩,
  ⟨(some 7), .fa 0 (.t 1), (some (6, false)), 0⟩,
  ⟨(some 8), .ld false 1 (.t 7), (some (6, false)), 0⟩,
  ⟨(some 9), .bin .gtr (.t 8) (.k (.d (.i .i64 7))), (some (6, false)), 0⟩,
  ⟨(some 10), .pick (.t 6) (.k (.d (.b true))) (.t 9), none, 0⟩,
  ⟨(some 11), .mv (.t 10), none, 0⟩,
  ⟨(some 12), .ld true 4 (.t 1), (some (11, false)), 0⟩,
  ⟨(some 13), .call 139 [(.t 12)] 0 true, (some (11, false)), 0⟩,
  ⟨(some 14), .un .not (.t 13), (some (11, false)), 0⟩,
  ⟨(some 15), .pick (.t 11) (.k (.d (.b true))) (.t 14), none, 0⟩,
  ⟨(some 16), .mv (.t 15), none, 0⟩,
  ⟨(some 17), .fa 0 (.t 1), (some (16, false)), 0⟩,
  ⟨(some 18), .ld false 1 (.t 17), (some (16, false)), 0⟩,
  ⟨(some 19), .bin .neq (.t 18) (.k (.d (.i .i64 3))), (some (16, false)), 0⟩,
  ⟨(some 20), .mv (.t 19), (some (16, false)), 0⟩,
  ⟨(some 21), .fa 2 (.t 1), (some (20, true)), 0⟩,
  ⟨(some 22), .ld false 1 (.t 21), (some (20, true)), 0⟩,
  ⟨(some 23), .bin .neq (.t 22) (.k (.d (.s []))), (some (20, true)), 0⟩,
  ⟨(some 24), .pick (.t 20) (.t 23) (.k (.d (.b false))), (some (16, false)), 0⟩,
  ⟨(some 25), .pick (.t 16) (.k (.d (.b true))) (.t 24), none, 0⟩,
  ⟨(some 26), .mv (.t 25), none, 0⟩,
  ⟨(some 27), .ld true 4 (.t 1), (some (26, false)), 0⟩,
  ⟨(some 28), .call 140 [(.t 27)] 0 true, (some (26, false)), 0⟩,
  ⟨(some 29), .un .not (.t 28), (some (26, false)), 0⟩,
  ⟨(some 30), .pick (.t 26) (.k (.d (.b true))) (.t 29), none, 0⟩]) (
.cond (.t 30) (
.seq (.region false [
  ⟨(some 2), .mv (.k (.d (.b false))), none, 0⟩]) (
.ret)) (.skip))) (
.seq (.region false [
  ⟨(some 31), .fa 3 (.t 1), none, 0⟩,
  ⟨(some 32), .ld false 1 (.t 31), none, 0⟩,
  ⟨(some 33), .call 141 [(.t 32), (.k (.d (.f 142 [] [])))] 4 true, none, 0⟩,
  ⟨(some 34), .un .not (.t 33), none, 0⟩,
  ⟨(some 2), .mv (.t 34), none, 0⟩]) (
.ret))), [.slot 2]⟩
def n125 : Notes := ⟨[], []⟩

/-- cmp.Or(int) -/
def c126 : CFn := ⟨.seq (.region false [
  ⟨(some 2), .mv (.k (.d (.i .i64 0))), none, 0⟩]) (
.seq (.region false [
  ⟨(some 3), .mv (.k (.d (.i .i64 0))), none, 0⟩]) (
.seq (.seq (.region false [
  ⟨(some 6), .mv (.t 0), none, 0⟩,
  ⟨(some 7), .len 0 (.t 6), none, 0⟩,
  ⟨(some 8), .mv (.k (.d (.i .i64 0))), none, 0⟩]) (
.block 0 (.loop ⟨[3, 6, 7, 8], [], [], [], [], true⟩ (.seq (.region false [
  ⟨(some 9), .bin .lss (.t 8) (.t 7), none, 0⟩]) (
.seq (.cond (.t 9) (
.skip) (.exit 0)) (
.seq (.block 1 (.seq (.region false [
  ⟨(some 10), .ia 1 (.t 6) (.t 8), none, 0⟩,
  ⟨(some 11), .ld false 1 (.t 10), none, 0⟩,
  ⟨(some 5), .mv (.t 11), none, 0⟩]) (
.seq (.region false [
  ⟨(some 12), .mv (.t 5), none, 0⟩,
  ⟨(some 13), .mv (.t 3), none, 0⟩,
  ⟨(some 14), .bin .neq (.t 12) (.t 13), none, 0⟩]) (
.cond (.t 14) (
.seq (.region false [
  ⟨(some 15), .mv (.t 5), none, 0⟩,
  ⟨(some 2), .mv (.t 15), none, 0⟩]) (
.ret)) (.skip))))) (
.region false [
  ⟨(some 16), .bin .add (.t 8) (.k (.d (.i .i64 1))), none, 0⟩,
  ⟨(some 8), .mv (.t 16), none, 0⟩]))))))) (
.seq (.region false [
  ⟨(some 17), .mv (.t 3), none, 0⟩,
  ⟨(some 2), .mv (.t 17), none, 0⟩]) (
.ret)))), [.slot 2]⟩
def n126 : Notes := ⟨[⟨[3, 6, 7, 8], [], [], [], [], true⟩], []⟩

/-- cmp.Compare(int) -/
def c127 : CFn := ⟨.seq (.region false [
  ⟨(some 4), .mv (.k (.d (.i .i64 0))), none, 0⟩]) (
.seq (.region false [
  ⟨(some 7), .mv (.t 0), none, 0⟩,
  ⟨(some 8), .call 143 [(.t 7)] 0 true, none, 0⟩,
  ⟨(some 5), .mv (.t 8), none, 0⟩]) (
.seq (.region false [
  ⟨(some 9), .mv (.t 1), none, 0⟩,
  ⟨(some 10), .call 143 [(.t 9)] 0 true, none, 0⟩,
  ⟨(some 6), .mv (.t 10), none, 0⟩]) (
.seq (.seq (.region false [
  ⟨(some 11), .mv (.t 5), none, 0⟩]) (
.cond (.t 11) (
.seq (.seq (.region false [
  ⟨(some 12), .mv (.t 6), none, 0⟩]) (
.cond (.t 12) (
.seq (.region false [
  ⟨(some 4), .mv (.k (.d (.i .i64 0))), none, 0⟩]) (
.ret)) (.skip))) (
.seq (.region false [
  ⟨(some 4), .mv (.k (.d (.i .i64 (-1)))), none, 0⟩]) (
.ret))) (.skip))) (
.seq (.seq (.region false [
  ⟨(some 13), .mv (.t 6), none, 0⟩]) (
.cond (.t 13) (
.seq (.region false [
  ⟨(some 4), .mv (.k (.d (.i .i64 1))), none, 0⟩]) (
.ret)) (.skip))) (
.seq (.seq (.region false [
  ⟨(some 14), .mv (.t 0), none, 0⟩,
  ⟨(some 15), .mv (.t 1), none, 0⟩,
  ⟨(some 16), .bin .lss (.t 14) (.t 15), none, 0⟩]) (
.cond (.t 16) (
.seq (.region false [
  ⟨(some 4), .mv (.k (.d (.i .i64 (-1)))), none, 0⟩]) (
.ret)) (.skip))) (
.seq (.seq (.region false [
  ⟨(some 17), .mv (.t 0), none, 0⟩,
  ⟨(some 18), .mv (.t 1), none, 0⟩,
  ⟨(some 19), .bin .gtr (.t 17) (.t 18), none, 0⟩]) (
.cond (.t 19) (
.seq (.region false [
  ⟨(some 4), .mv (.k (.d (.i .i64 1))), none, 0⟩]) (
.ret)) (.skip))) (
.seq (.region false [
  ⟨(some 4), .mv (.k (.d (.i .i64 0))), none, 0⟩]) (
.ret)))))))), [.slot 4]⟩
def n127 : Notes := ⟨[], []⟩

/-- cmp.Compare(int64) -/
def c128 : CFn := ⟨.seq (.region false [
  ⟨(some 4), .mv (.k (.d (.i .i64 0))), none, 0⟩]) (
.seq (.region false [
  ⟨(some 7), .mv (.t 0), none, 0⟩,
  ⟨(some 8), .call 144 [(.t 7)] 0 true, none, 0⟩,
  ⟨(some 5), .mv (.t 8), none, 0⟩]) (
.seq (.region false [
  ⟨(some 9), .mv (.t 1), none, 0⟩,
  ⟨(some 10), .call 144 [(.t 9)] 0 true, none, 0⟩,
  ⟨(some 6), .mv (.t 10), none, 0⟩]) (
.seq (.seq (.region false [
  ⟨(some 11), .mv (.t 5), none, 0⟩]) (
.cond (.t 11) (
.seq (.seq (.region false [
  ⟨(some 12), .mv (.t 6), none, 0⟩]) (
.cond (.t 12) (
.seq (.region false [
  ⟨(some 4), .mv (.k (.d (.i .i64 0))), none, 0⟩]) (
.ret)) (.skip))) (
.seq (.region false [
  ⟨(some 4), .mv (.k (.d (.i .i64 (-1)))), none, 0⟩]) (
.ret))) (.skip))) (
.seq (.seq (.region false [
  ⟨(some 13), .mv (.t 6), none, 0⟩]) (
.cond (.t 13) (
.seq (.region false [
  ⟨(some 4), .mv (.k (.d (.i .i64 1))), none, 0⟩]) (
.ret)) (.skip))) (
.seq (.seq (.region false [
  ⟨(some 14), .mv (.t 0), none, 0⟩,
  ⟨(some 15), .mv (.t 1), none, 0⟩,
  ⟨(some 16), .bin .lss (.t 14) (.t 15), none, 0⟩]) (
.cond (.t 16) (
.seq (.region false [
  ⟨(some 4), .mv (.k (.d (.i .i64 (-1)))), none, 0⟩]) (
.ret)) (.skip))) (
.seq (.seq (.region false [
  ⟨(some 17), .mv (.t 0), none, 0⟩,
  ⟨(some 18), .mv (.t 1), none, 0⟩,
  ⟨(some 19), .bin .gtr (.t 17) (.t 18), none, 0⟩]) (
.cond (.t 19) (
.seq (.region false [
  ⟨(some 4), .mv (.k (.d (.i .i64 1))), none, 0⟩]) (
.ret)) (.skip))) (
.seq (.region false [
  ⟨(some 4), .mv (.k (.d (.i .i64 0))), none, 0⟩]) (
.ret)))))))), [.slot 4]⟩
def n128 : Notes := ⟨[], []⟩

/-- cmp.Compare(string) -/
def c129 : CFn := ⟨.seq (.region false [
  ⟨(some 4), .mv (.k (.d (.i .i64 0))), none, 0⟩]) (
.seq (.region false [
  ⟨(some 7), .mv (.t 0), none, 0⟩,
  ⟨(some 8), .call 145 [(.t 7)] 0 true, none, 0⟩,
  ⟨(some 5), .mv (.t 8), none, 0⟩]) (
.seq (.region false [
  ⟨(some 9), .mv (.t 1), none, 0⟩,
  ⟨(some 10), .call 145 [(.t 9)] 0 true, none, 0⟩,
  ⟨(some 6), .mv (.t 10), none, 0⟩]) (
.seq (.seq (.region false [
  ⟨(some 11), .mv (.t 5), none, 0⟩]) (
.cond (.t 11) (
.seq (.seq (.region false [
  ⟨(some 12), .mv (.t 6), none, 0⟩]) (
.cond (.t 12) (
.seq (.region false [
  ⟨(some 4), .mv (.k (.d (.i .i64 0))), none, 0⟩]) (
.ret)) (.skip))) (
.seq (.region false [
  ⟨(some 4), .mv (.k (.d (.i .i64 (-1)))), none, 0⟩]) (
.ret))) (.skip))) (
.seq (.seq (.region false [
  ⟨(some 13), .mv (.t 6), none, 0⟩]) (
.cond (.t 13) (
.seq (.region false [
  ⟨(some 4), .mv (.k (.d (.i .i64 1))), none, 0⟩]) (
.ret)) (.skip))) (
.seq (.seq (.region false [
  ⟨(some 14), .mv (.t 0), none, 0⟩,
  ⟨(some 15), .mv (.t 1), none, 0⟩,
  ⟨(some 16), .bin .lss (.t 14) (.t 15), none, 0⟩]) (
.cond (.t 16) (
.seq (.region false [
  ⟨(some 4), .mv (.k (.d (.i .i64 (-1)))), none, 0⟩]) (
.ret)) (.skip))) (
.seq (.seq (.region false [
  ⟨(some 17), .mv (.t 0), none, 0⟩,
  ⟨(some 18), .mv (.t 1), none, 0⟩,
  ⟨(some 19), .bin .gtr (.t 17) (.t 18), none, 0⟩]) (
.cond (.t 19) (
.seq (.region false [
  ⟨(some 4), .mv (.k (.d (.i .i64 1))), none, 0⟩]) (
.ret)) (.skip))) (
.seq (.region false [
  ⟨(some 4), .mv (.k (.d (.i .i64 0))), none, 0⟩]) (
.ret)))))))), [.slot 4]⟩
def n129 : Notes := ⟨[], []⟩

/-- slices.CompareFunc(()lemmata/api.Val,()lemmata/api.Val,lemmata/api.Val,lemmata/api.Val) -/
def c130 : CFn := ⟨.seq (.region false [
  ⟨(some 6), .mv (.k (.d (.i .i64 0))), none, 0⟩]) (
.seq (.seq (.region false [
  ⟨(some 11), .mv (.t 0), none, 0⟩,
  ⟨(some 12), .len 0 (.t 11), none, 0⟩,
  ⟨(some 13), .mv (.k (.d (.i .i64 0))), none, 0⟩]) (
.block 0 (.loop ⟨[0, 1, 2, 11, 12, 13], [], [], [], [], true⟩ (.seq (.region false [
  ⟨(some 14), .bin .lss (.t 13) (.t 12), none, 0⟩]) (
.seq (.cond (.t 14) (
.skip) (.exit 0)) (
.seq (.block 1 (.seq (.region false [
  ⟨(some 15), .mv (.t 13), none, 0⟩,
  ⟨(some 16), .ia 4 (.t 11) (.t 13), none, 0⟩,
  ⟨(some 17), .ld true 4 (.t 16), none, 0⟩,
  ⟨(some 8), .zero (.agg [(.d (.i .i64 0)), (.d (.i .i64 0)), (.d (.s [])), (.nil 4)]), none, 0⟩,
  ⟨(some 7), .mv (.t 15), none, 0⟩,
  ⟨none, .st 4 (.t 8) (.t 17), none, 0⟩]) (
.seq (.seq (.region false [
  ⟨(some 18), .mv (.t 7), none, 0⟩,
  ⟨(some 19), .mv (.t 1), none, 0⟩,
  ⟨(some 20), .len 0 (.t 19), none, 0⟩,
  ⟨(some 21), .bin .geq (.t 18) (.t 20), none, 0⟩]) (
.cond (.t 21) (
.seq (.region false [
  ⟨(some 6), .mv (.k (.d (.i .i64 1))), none, 0⟩]) (
.ret)) (.skip))) (
.seq (.region false [
  ⟨(some 22), .mv (.t 1), none, 0⟩,
  ⟨(some 23), .mv (.t 7), none, 0⟩,
  ⟨(some 24), .ia 4 (.t 22) (.t 23), none, 0⟩,
  ⟨(some 25), .ld true 4 (.t 24), none, 0⟩,
  ⟨(some 9), .zero (.agg [(.d (.i .i64 0)), (.d (.i .i64 0)), (.d (.s [])), (.nil 4)]), none, 0⟩,
  ⟨none, .st 4 (.t 9) (.t 25), none, 0⟩]) (
.seq (.region false [
  ⟨(some 26), .mv (.t 2), none, 0⟩,
  ⟨(some 27), .ld true 4 (.t 8), none, 0⟩,
  ⟨(some 28), .ld true 4 (.t 9), none, 0⟩,
  ⟨(some 29), .callv (.t 26) [(.t 27), (.t 28)] 4 true, none, 0⟩,
  ⟨(some 10), .mv (.t 29), none, 0⟩]) (
.seq (.region false [
  ⟨(some 30), .mv (.t 10), none, 0⟩,
  ⟨(some 31), .bin .neq (.t 30) (.k (.d (.i .i64 0))), none, 0⟩]) (
.cond (.t 31) (
.seq (.region false [
  ⟨(some 32), .mv (.t 10), none, 0⟩,
  ⟨(some 6), .mv (.t 32), none, 0⟩]) (
.ret)) (.skip)))))))) (
.region false [
  ⟨(some 33), .bin .add (.t 13) (.k (.d (.i .i64 1))), none, 0⟩,
  ⟨(some 13), .mv (.t 33), none, 0⟩]))))))) (
.seq (.seq (.region false [
  ⟨(some 34), .mv (.t 0), none, 0⟩,
  ⟨(some 35), .len 0 (.t 34), none, 0⟩,
  ⟨(some 36), .mv (.t 1), none, 0⟩,
  ⟨(some 37), .len 0 (.t 36), none, 0⟩,
  ⟨(some 38), .bin .lss (.t 35) (.t 37), none, 0⟩]) (
.cond (.t 38) (
.seq (.region false [
  ⟨(some 6), .mv (.k (.d (.i .i64 (-1)))), none, 0⟩]) (
.ret)) (.skip))) (
.seq (.region false [
  ⟨(some 6), .mv (.k (.d (.i .i64 0))), none, 0⟩]) (
.ret)))), [.slot 6]⟩
def n130 : Notes := ⟨[⟨[0, 1, 2, 11, 12, 13], [], [], [], [], true⟩], []⟩

/-- lemmata/lemmataref1.sign -/
def c131 : CFn := ⟨.seq (.region false [
  ⟨(some 2), .mv (.k (.d (.i .i64 0))), none, 0⟩]) (
.seq (.seq (.region false [
  ⟨(some 3), .mv (.t 0), none, 0⟩]) (
.cond (.t 3) (
.seq (.region false [
  ⟨(some 2), .mv (.k (.d (.i .i64 (-1)))), none, 0⟩]) (
.ret)) (.skip))) (
.seq (.region false [
  ⟨(some 2), .mv (.k (.d (.i .i64 1))), none, 0⟩]) (
.ret))), [.slot 2]⟩
def n131 : Notes := ⟨[], []⟩

/-- lemmata/val.mine -/
def c132 : CFn := ⟨.seq (.region false [
  ⟨(some 1), .box (.t 0), none, 0⟩,
  ⟨(some 2), .zero (.agg [(.d (.i .i64 0)), (.d (.i .i64 0)), (.d (.s [])), (.nil 4)]), none, 0⟩]) (
.seq (.region false [
  ⟨(some 6), .fa 3 (.t 1), none, 0⟩,
  ⟨(some 7), .ld false 1 (.t 6), none, 0⟩,
  ⟨(some 8), .call 146 [(.t 7)] 4 false, none, 0⟩,
  ⟨(some 3), .mv (.t 8), none, 0⟩]) (
.seq (.seq (.region false [
  ⟨(some 9), .mv (.t 3), none, 0⟩,
  ⟨(some 10), .len 0 (.t 9), none, 0⟩,
  ⟨(some 11), .mv (.k (.d (.i .i64 0))), none, 0⟩]) (
.block 0 (.loop ⟨[1, 2, 3, 9, 10, 11], [], [], [], [], true⟩ (.seq (.region false [
  ⟨(some 12), .bin .lss (.t 11) (.t 10), none, 0⟩]) (
.seq (.cond (.t 12) (
.skip) (.exit 0)) (
.seq (.block 1 (.seq (.region false [
  ⟨(some 13), .mv (.t 11), none, 0⟩,
  ⟨(some 14), .ia 4 (.t 9) (.t 11), none, 0⟩,
  ⟨(some 15), .ld true 4 (.t 14), none, 0⟩,
  ⟨(some 5), .zero (.agg [(.d (.i .i64 0)), (.d (.i .i64 0)), (.d (.s [])), (.nil 4)]), none, 0⟩,
  ⟨(some 4), .mv (.t 13), none, 0⟩,
  ⟨none, .st 4 (.t 5) (.t 15), none, 0⟩]) (
.region false [
  ⟨(some 16), .mv (.t 3), none, 0⟩,
  ⟨(some 17), .mv (.t 4), none, 0⟩,
  ⟨(some 18), .ld true 4 (.t 5), none, 0⟩,
  ⟨(some 19), .call 132 [(.t 18)] 0 true, none, 0⟩,
  ⟨(some 20), .ia 4 (.t 16) (.t 17), none, 0⟩,
  ⟨none, .st 4 (.t 20) (.t 19), none, 0⟩]))) (
.region false [
  ⟨(some 21), .bin .add (.t 11) (.k (.d (.i .i64 1))), none, 0⟩,
  ⟨(some 11), .mv (.t 21), none, 0⟩]))))))) (
.seq (.region false [
  ⟨(some 22), .mv (.t 3), none, 0⟩,
  ⟨(some 23), .fa 3 (.t 1), none, 0⟩,
  ⟨none, .st 1 (.t 23) (.t 22), none, 0⟩]) (
.seq (.region false [
  ⟨(some 24), .ld true 4 (.t 1), none, 0⟩,
  ⟨none, .st 4 (.t 2) (.t 24), none, 0⟩]) (
.ret))))), [.cell 2 true 4]⟩
def n132 : Notes := ⟨[⟨[1, 2, 3, 9, 10, 11], [], [], [], [], true⟩], [false, false, false, false, true]⟩

/-- lemmata/val.place(lemmata/api.Val,lemmata/api.Val) -/
def c133 : CFn := ⟨.seq (.region false [
  ⟨(some 4), .box (.t 1), none, 0⟩,
  ⟨(some 6), .mv (.k (.d (.i .i64 0))), none, 0⟩,
  ⟨(some 7), .mv (.k (.d (.b false))), none, 0⟩]) (
.seq (.region false [
  ⟨(some 8), .mv (.t 0), none, 0⟩,
  ⟨(some 9), .ld true 4 (.t 4), none, 0⟩,
  ⟨(some 10), .mv (.t 2), none, 0⟩,
  ⟨(some 11), .call 147 [(.t 8), (.t 9), (.t 10)] 4 true, none, 0⟩,
  ⟨(some 12), .ext (.t 11) 0, none, 0⟩,
  ⟨(some 13), .ext (.t 11) 1, none, 0⟩,
  ⟨(some 6), .mv (.t 12), none, 0⟩,
  ⟨(some 7), .mv (.t 13), none, 0⟩]) (
.ret)), [.slot 6, .slot 7]⟩
def n133 : Notes := ⟨[], []⟩

/-- lemmata/val.place(lemmata/api.Val,string) -/
def c135 : CFn := ⟨.seq (.region false [
  ⟨(some 6), .mv (.k (.d (.i .i64 0))), none, 0⟩,
  ⟨(some 7), .mv (.k (.d (.b false))), none, 0⟩]) (
.seq (.region false [
  ⟨(some 8), .mv (.t 0), none, 0⟩,
  ⟨(some 9), .mv (.t 1), none, 0⟩,
  ⟨(some 10), .mv (.t 2), none, 0⟩,
  ⟨(some 11), .call 150 [(.t 8), (.t 9), (.t 10)] 4 true, none, 0⟩,
  ⟨(some 12), .ext (.t 11) 0, none, 0⟩,
  ⟨(some 13), .ext (.t 11) 1, none, 0⟩,
  ⟨(some 6), .mv (.t 12), none, 0⟩,
  ⟨(some 7), .mv (.t 13), none, 0⟩]) (
.ret)), [.slot 6, .slot 7]⟩
def n135 : Notes := ⟨[], []⟩

/-- lemmata/val.Find$1 -/
def c136 : CFn := ⟨.seq (.region false [
  ⟨(some 2), .box (.t 0), none, 0⟩,
  ⟨(some 4), .mv (.k (.d (.i .i64 0))), none, 0⟩]) (
.seq (.region false [
  ⟨(some 5), .ld true 4 (.t 2), none, 0⟩,
  ⟨(some 6), .call 137 [(.t 5)] 0 true, none, 0⟩,
  ⟨(some 7), .mv (.t 1), none, 0⟩,
  ⟨(some 8), .call 129 [(.t 6), (.t 7)] 0 true, none, 0⟩,
  ⟨(some 4), .mv (.t 8), none, 0⟩]) (
.ret)), [.slot 4]⟩
def n136 : Notes := ⟨[], []⟩

/-- lemmata/val.key -/
def c137 : CFn := ⟨.seq (.region false [
  ⟨(some 1), .box (.t 0), none, 0⟩,
  ⟨(some 2), .mv (.k (.d (.s []))), none, 0⟩]) (
.seq (.seq (.region false [
  ⟨(some 3), .fa 3 (.t 1), none, 0⟩,
  ⟨(some 4), .ld false 1 (.t 3), none, 0⟩,
  ⟨(some 5), .len 0 (.t 4), none, 0⟩,
  ⟨(some 6), .bin .eql (.t 5) (.k (.d (.i .i64 0))), none, 0⟩]) (
.cond (.t 6) (
.seq (.region false [
  ⟨(some 2), .mv (.k (.d (.s []))), none, 0⟩]) (
.ret)) (.skip))) (
.seq (.region false [
  ⟨(some 7), .fa 3 (.t 1), none, 0⟩,
  ⟨(some 8), .ld false 1 (.t 7), none, 0⟩,
  ⟨(some 9), .ia 4 (.t 8) (.k (.d (.i .i64 0))), none, 0⟩,
  ⟨(some 10), .fa 2 (.t 9), none, 0⟩,
  ⟨(some 11), .ld false 1 (.t 10), none, 0⟩,
  ⟨(some 2), .mv (.t 11), none, 0⟩]) (
.ret))), [.slot 2]⟩
def n137 : Notes := ⟨[], []⟩

/-- lemmata/lemmataref1.key -/
def c138 : CFn := ⟨.seq (.region false [
  ⟨(some 1), .box (.t 0), none, 0⟩,
  ⟨(some 2), .mv (.k (.d (.s []))), none, 0⟩]) (
.seq (.seq (.region false [
  ⟨(some 3), .fa 3 (.t 1), none, 0⟩,
  ⟨(some 4), .ld false 1 (.t 3), none, 0⟩,
  ⟨(some 5), .len 0 (.t 4), none, 0⟩,
  ⟨(some 6), .bin .eql (.t 5) (.k (.d (.i .i64 0))), none, 0⟩]) (
.cond (.t 6) (
.seq (.region false [
  ⟨(some 2), .mv (.k (.d (.s []))), none, 0⟩]) (
.ret)) (.skip))) (
.seq (.region false [
  ⟨(some 7), .fa 3 (.t 1), none, 0⟩,
  ⟨(some 8), .ld false 1 (.t 7), none, 0⟩,
  ⟨(some 9), .ia 4 (.t 8) (.k (.d (.i .i64 0))), none, 0⟩,
  ⟨(some 10), .fa 2 (.t 9), none, 0⟩,
  ⟨(some 11), .ld false 1 (.t 10), none, 0⟩,
  ⟨(some 2), .mv (.t 11), none, 0⟩]) (
.ret))), [.slot 2]⟩
def n138 : Notes := ⟨[], []⟩

/-- lemmata/val.number -/
def c139 : CFn := ⟨.seq (.region false [
  ⟨(some 1), .box (.t 0), none, 0⟩,
  ⟨(some 2), .mv (.k (.d (.b false))), none, 0⟩]) (
.seq (.seq (.region false [
  ⟨(some 3), .fa 0 (.t 1), none, 0⟩,
  ⟨(some 4), .ld false 1 (.t 3), none, 0⟩]) (
.block 0 (.seq (.region false [
  ⟨(some 6), .bin .eql (.t 4) (.k (.d (.i .i64 1))), none, 0⟩,
  ⟨(some 5), .mv (.t 6), none, 0⟩]) (
.cond (.t 5) (
.seq (.region false [
  ⟨(some 2), .mv (.k (.d (.b true))), none, 0⟩]) (
.ret)) (.seq (.region false [
  ⟨(some 8), .bin .eql (.t 4) (.k (.d (.i .i64 2))), none, 0⟩,
  ⟨(some 7), .mv (.t 8), none, 0⟩]) (
.cond (.t 7) (
.seq (.region false [
  ⟨(some 9), .fa 1 (.t 1), none, 0⟩,
  ⟨(some 10), .ld false 1 (.t 9), none, 0⟩,
  ⟨(some 11), .bin .eql (.t 10) (.k (.d (.i .i64 0))), none, 0⟩,
  ⟨(some 12), .mv (.t 11), none, 0⟩,
  ⟨(some 13), .fa 1 (.t 1), (some (12, false)), 0⟩,
  ⟨(some 14), .ld false 1 (.t 13), (some (12, false)), 0⟩,
  ⟨(some 15), .bin .eql (.t 14) (.k (.d (.i .i64 1))), (some (12, false)), 0⟩,
  ⟨(some 16), .pick (.t 12) (.k (.d (.b true))) (.t 15), none, 0⟩,
  ⟨(some 2), .mv (.t 16), none, 0⟩]) (
.ret)) (.seq (.region false [
  ⟨(some 18), .bin .eql (.t 4) (.k (.d (.i .i64 7))), none, 0⟩,
  ⟨(some 17), .mv (.t 18), none, 0⟩]) (
.cond (.t 17) (
.seq (.region false [
  ⟨(some 19), .fa 1 (.t 1), none, 0⟩,
  ⟨(some 20), .ld false 1 (.t 19), none, 0⟩,
  ⟨(some 21), .bin .geq (.t 20) (.k (.d (.i .i64 1))), none, 0⟩,
  ⟨(some 22), .mv (.t 21), none, 0⟩,
  ⟨(some 23), .fa 1 (.t 1), (some (22, true)), 0⟩,
  ⟨(some 24), .ld false 1 (.t 23), (some (22, true)), 0⟩,
  ⟨(some 25), .bin .leq (.t 24) (.k (.d (.i .i64 13))), (some (22, true)), 0⟩,
  ⟨(some 26), .pick (.t 22) (.t 25) (.k (.d (.b false))), none, 0⟩,
  ⟨(some 2), .mv (.t 26), none, 0⟩]) (
.ret)) (.skip))))))))) (
.seq (.region false [
  ⟨(some 27), .fa 1 (.t 1), none, 0⟩,
  ⟨(some 28), .ld false 1 (.t 27), none, 0⟩,
  ⟨(some 29), .bin .eql (.t 28) (.k (.d (.i .i64 0))), none, 0⟩,
  ⟨(some 2), .mv (.t 29), none, 0⟩]) (
.ret))), [.slot 2]⟩
def n139 : Notes := ⟨[], []⟩

/-- lemmata/val.row -/
def c140 : CFn := ⟨.seq (.region false [
  ⟨(some 1), .box (.t 0), none, 0⟩,
  ⟨(some 2), .mv (.k (.d (.b false))), none, 0⟩]) (
.seq (.seq (.region false [
  ⟨(some 3), .fa 0 (.t 1), none, 0⟩,
  ⟨(some 4), .ld false 1 (.t 3), none, 0⟩]) (
.block 0 (.seq (.region false [
  ⟨(some 6), .bin .eql (.t 4) (.k (.d (.i .i64 4))), none, 0⟩,
  ⟨(some 5), .mv (.t 6), none, 0⟩]) (
.cond (.t 5) (
.seq (.region false [
  ⟨(some 2), .mv (.k (.d (.b true))), none, 0⟩]) (
.ret)) (.seq (.region false [
  ⟨(some 8), .bin .eql (.t 4) (.k (.d (.i .i64 5))), none, 0⟩,
  ⟨(some 7), .mv (.t 8), none, 0⟩]) (
.cond (.t 7) (
.seq (.region false [
  ⟨(some 9), .fa 3 (.t 1), none, 0⟩,
  ⟨(some 10), .ld false 1 (.t 9), none, 0⟩,
  ⟨(some 11), .call 151 [(.t 10), (.k (.d (.f 114 [] [])))] 4 true, none, 0⟩,
  ⟨(some 2), .mv (.t 11), none, 0⟩]) (
.ret)) (.seq (.region false [
  ⟨(some 13), .bin .eql (.t 4) (.k (.d (.i .i64 6))), none, 0⟩,
  ⟨(some 12), .mv (.t 13), none, 0⟩]) (
.cond (.t 12) (
.seq (.region false [
  ⟨(some 14), .fa 3 (.t 1), none, 0⟩,
  ⟨(some 15), .ld false 1 (.t 14), none, 0⟩,
  ⟨(some 16), .call 141 [(.t 15), (.k (.d (.f 152 [] [])))] 4 true, none, 0⟩,
  ⟨(some 17), .un .not (.t 16), none, 0⟩,
  ⟨(some 18), .mv (.t 17), none, 0⟩,
  ⟨(some 19), .fa 3 (.t 1), (some (18, true)), 0⟩,
  ⟨(some 20), .ld false 1 (.t 19), (some (18, true)), 0⟩,
  ⟨(some 21), .call 151 [(.t 20), (.k (.d (.f 154 [] [])))] 4 true, (some (18, true)), 0⟩,
  ⟨(some 22), .pick (.t 18) (.t 21) (.k (.d (.b false))), none, 0⟩,
  ⟨(some 2), .mv (.t 22), none, 0⟩]) (
.ret)) (.skip))))))))) (
.seq (.region false [
  ⟨(some 23), .fa 3 (.t 1), none, 0⟩,
  ⟨(some 24), .ld false 1 (.t 23), none, 0⟩,
  ⟨(some 25), .len 0 (.t 24), none, 0⟩,
  ⟨(some 26), .bin .eql (.t 25) (.k (.d (.i .i64 0))), none, 0⟩,
  ⟨(some 2), .mv (.t 26), none, 0⟩]) (
.ret))), [.slot 2]⟩
def n140 : Notes := ⟨[], []⟩

/-- slices.ContainsFunc(()lemmata/api.Val,lemmata/api.Val) -/
def c141 : CFn := ⟨.seq (.region false [
  ⟨(some 4), .mv (.k (.d (.b false))), none, 0⟩]) (
.seq (.region false [
  ⟨(some 5), .mv (.t 0), none, 0⟩,
  ⟨(some 6), .mv (.t 1), none, 0⟩,
  ⟨(some 7), .call 155 [(.t 5), (.t 6)] 4 true, none, 0⟩,
  ⟨(some 8), .bin .geq (.t 7) (.k (.d (.i .i64 0))), none, 0⟩,
  ⟨(some 4), .mv (.t 8), none, 0⟩]) (
.ret)), [.slot 4]⟩
def n141 : Notes := ⟨[], []⟩

/-- lemmata/val.may$1 -/
def c142 : CFn := ⟨.seq (.region false [
  ⟨(some 1), .box (.t 0), none, 0⟩,
  ⟨(some 2), .mv (.k (.d (.b false))), none, 0⟩]) (
.seq (.region false [
  ⟨(some 3), .fa 0 (.t 1), none, 0⟩,
  ⟨(some 4), .ld false 1 (.t 3), none, 0⟩,
  ⟨(some 5), .bin .eql (.t 4) (.k (.d (.i .i64 7))), none, 0⟩,
  ⟨(some 6), .mv (.t 5), none, 0⟩,
  ⟨(some 7), .ld true 4 (.t 1), (some (6, false)), 0⟩,
  ⟨(some 8), .call 125 [(.t 7)] 0 true, (some (6, false)), 0⟩,
  ⟨(some 9), .un .not (.t 8), (some (6, false)), 0⟩,
  ⟨(some 10), .pick (.t 6) (.k (.d (.b true))) (.t 9), none, 0⟩,
  ⟨(some 2), .mv (.t 10), none, 0⟩]) (
.ret)), [.slot 2]⟩
def n142 : Notes := ⟨[], []⟩

/-- cmp.isNaN(int) -/
def c143 : CFn := ⟨.seq (.region false [
  ⟨(some 2), .mv (.k (.d (.b false))), none, 0⟩]) (
.seq (.region false [
  ⟨(some 3), .mv (.t 0), none, 0⟩,
  ⟨(some 4), .mv (.t 0), none, 0⟩,
  ⟨(some 5), .bin .neq (.t 3) (.t 4), none, 0⟩,
  ⟨(some 2), .mv (.t 5), none, 0⟩]) (
.ret)), [.slot 2]⟩
def n143 : Notes := ⟨[], []⟩

/-- cmp.isNaN(int64) -/
def c144 : CFn := ⟨.seq (.region false [
  ⟨(some 2), .mv (.k (.d (.b false))), none, 0⟩]) (
.seq (.region false [
  ⟨(some 3), .mv (.t 0), none, 0⟩,
  ⟨(some 4), .mv (.t 0), none, 0⟩,
  ⟨(some 5), .bin .neq (.t 3) (.t 4), none, 0⟩,
  ⟨(some 2), .mv (.t 5), none, 0⟩]) (
.ret)), [.slot 2]⟩
def n144 : Notes := ⟨[], []⟩

/-- cmp.isNaN(string) -/
def c145 : CFn := ⟨.seq (.region false [
  ⟨(some 2), .mv (.k (.d (.b false))), none, 0⟩]) (
.seq (.region false [
  ⟨(some 3), .mv (.t 0), none, 0⟩,
  ⟨(some 4), .mv (.t 0), none, 0⟩,
  ⟨(some 5), .bin .neq (.t 3) (.t 4), none, 0⟩,
  ⟨(some 2), .mv (.t 5), none, 0⟩]) (
.ret)), [.slot 2]⟩
def n145 : Notes := ⟨[], []⟩

/-- slices.Clone(()lemmata/api.Val,lemmata/api.Val) -/
def c146 : CFn := ⟨.seq (.region false [
  ⟨(some 2), .mv (.k (.nil 4)), none, 0⟩]) (
.seq (.seq (.region false [
  ⟨(some 3), .mv (.t 0), none, 0⟩,
  ⟨(some 4), .nils false (.t 3), none, 0⟩]) (
.cond (.t 4) (
.seq (.region false [
  ⟨(some 2), .mv (.k (.nil 4)), none, 0⟩]) (
.ret)) (.skip))) (
.seq (.region false [
  ⟨(some 5), .bsl 4 0 [(.i .i64 0), (.i .i64 0), (.s []), (.l 4 [])] [], none, 0⟩,
  ⟨(some 6), .mv (.t 0), none, 0⟩,
  ⟨(some 7), .app 4 56 (.t 5) (.t 6), none, 0⟩,
  ⟨(some 2), .mv (.t 7), none, 0⟩]) (
.ret))), [.slot 2]⟩
def n146 : Notes := ⟨[], []⟩

/-- slices.BinarySearchFunc(()lemmata/api.Val,lemmata/api.Val,lemmata/api.Val) -/
def c147 : CFn := ⟨.seq (.region false [
  ⟨(some 4), .box (.t 1), none, 0⟩,
  ⟨(some 6), .mv (.k (.d (.i .i64 0))), none, 0⟩,
  ⟨(some 7), .mv (.k (.d (.b false))), none, 0⟩]) (
.seq (.region false [
  ⟨(some 12), .mv (.t 0), none, 0⟩,
  ⟨(some 13), .len 0 (.t 12), none, 0⟩,
  ⟨(some 8), .mv (.t 13), none, 0⟩]) (
.seq (.region false [
  ⟨(some 14), .mv (.t 8), none, 0⟩,
  ⟨(some 9), .mv (.k (.d (.i .i64 0))), none, 0⟩,
  ⟨(some 10), .mv (.t 14), none, 0⟩]) (
.seq (.block 0 (.loop ⟨[0, 2, 4, 8, 9, 10], [], [], [], [], true⟩ (.seq (.seq (.region false [
  ⟨(some 15), .mv (.t 9), none, 0⟩,
  ⟨(some 16), .mv (.t 10), none, 0⟩,
  ⟨(some 17), .bin .lss (.t 15) (.t 16), none, 0⟩]) (
.cond (.t 17) (
.skip) (.exit 0))) (
.block 1 (.seq (.region false [
  ⟨(some 18), .mv (.t 9), none, 0⟩,
  ⟨(some 19), .mv (.t 10), none, 0⟩,
  ⟨(some 20), .bin .add (.t 18) (.t 19), none, 0⟩,
  ⟨(some 21), .conv .u64 (.t 20), none, 0⟩,
  ⟨(some 22), .bin .shr (.t 21) (.k (.d (.i .u64 1))), none, 0⟩,
  ⟨(some 23), .conv .i64 (.t 22), none, 0⟩,
  ⟨(some 11), .mv (.t 23), none, 0⟩]) (
.seq (.region true [
  ⟨(some 24), .mv (.t 2), none, 0⟩,
  ⟨(some 25), .mv (.t 0), none, 0⟩,
  ⟨(some 26), .mv (.t 11), none, 0⟩,
  ⟨(some 27), .ia 4 (.t 25) (.t 26), none, 6⟩,
  ⟨(some 28), .ld true 4 (.t 27), none, 14⟩,
  ⟨(some 29), .ld true 4 (.t 4), none, 0⟩,
  ⟨(some 30), .callv (.t 24) [(.t 28), (.t 29)] 4 true, none, 63⟩,
  ⟨(some 31), .bin .lss (.t 30) (.k (.d (.i .i64 0))), none, 127⟩]) (
.cond (.t 31) (
.region false [
  ⟨(some 32), .mv (.t 11), none, 0⟩,
  ⟨(some 33), .bin .add (.t 32) (.k (.d (.i .i64 1))), none, 0⟩,
  ⟨(some 9), .mv (.t 33), none, 0⟩]) (.region false [
  ⟨(some 34), .mv (.t 11), none, 0⟩,
  ⟨(some 10), .mv (.t 34), none, 0⟩])))))))) (
.seq (.region true [
  ⟨(some 35), .mv (.t 9), none, 0⟩,
  ⟨(some 36), .mv (.t 9), none, 0⟩,
  ⟨(some 37), .mv (.t 8), none, 0⟩,
  ⟨(some 38), .bin .lss (.t 36) (.t 37), none, 6⟩,
  ⟨(some 39), .mv (.t 38), none, 14⟩,
  ⟨(some 40), .mv (.t 2), (some (39, true)), 30⟩,
  ⟨(some 41), .mv (.t 0), (some (39, true)), 30⟩,
  ⟨(some 42), .mv (.t 9), (some (39, true)), 30⟩,
  ⟨(some 43), .ia 4 (.t 41) (.t 42), (some (39, true)), 222⟩,
  ⟨(some 44), .ld true 4 (.t 43), (some (39, true)), 478⟩,
  ⟨(some 45), .ld true 4 (.t 4), (some (39, true)), 30⟩,
  ⟨(some 46), .callv (.t 40) [(.t 44), (.t 45)] 4 true, (some (39, true)), 2046⟩,
  ⟨(some 47), .bin .eql (.t 46) (.k (.d (.i .i64 0))), (some (39, true)), 4094⟩,
  ⟨(some 48), .pick (.t 39) (.t 47) (.k (.d (.b false))), none, 8190⟩,
  ⟨(some 6), .mv (.t 35), none, 4095⟩,
  ⟨(some 7), .mv (.t 48), none, 32767⟩]) (
.ret))))), [.slot 6, .slot 7]⟩
def n147 : Notes := ⟨[⟨[0, 2, 4, 8, 9, 10], [], [], [], [], true⟩], []⟩

/-- slices.rotateRight(lemmata/api.Val) -/
def c149 : CFn := ⟨.region false [
  ⟨(some 4), .mv (.t 0), none, 0⟩,
  ⟨(some 5), .mv (.t 0), none, 0⟩,
  ⟨(some 6), .len 0 (.t 5), none, 0⟩,
  ⟨(some 7), .mv (.t 1), none, 0⟩,
  ⟨(some 8), .bin .sub (.t 6) (.t 7), none, 0⟩,
  ⟨(some 9), .call 156 [(.t 4), (.t 8)] 0 true, none, 0⟩], []⟩
def n149 : Notes := ⟨[], []⟩

/-- slices.BinarySearchFunc(()lemmata/api.Val,lemmata/api.Val,string) -/
def c150 : CFn := ⟨.seq (.region false [
  ⟨(some 6), .mv (.k (.d (.i .i64 0))), none, 0⟩,
  ⟨(some 7), .mv (.k (.d (.b false))), none, 0⟩]) (
.seq (.region false [
  ⟨(some 12), .mv (.t 0), none, 0⟩,
  ⟨(some 13), .len 0 (.t 12), none, 0⟩,
  ⟨(some 8), .mv (.t 13), none, 0⟩]) (
.seq (.region false [
  ⟨(some 14), .mv (.t 8), none, 0⟩,
  ⟨(some 9), .mv (.k (.d (.i .i64 0))), none, 0⟩,
  ⟨(some 10), .mv (.t 14), none, 0⟩]) (
.seq (.block 0 (.loop ⟨[0, 1, 2, 8, 9, 10], [], [], [], [], true⟩ (.seq (.seq (.region false [
  ⟨(some 15), .mv (.t 9), none, 0⟩,
  ⟨(some 16), .mv (.t 10), none, 0⟩,
  ⟨(some 17), .bin .lss (.t 15) (.t 16), none, 0⟩]) (
.cond (.t 17) (
.skip) (.exit 0))) (
.block 1 (.seq (.region false [
  ⟨(some 18), .mv (.t 9), none, 0⟩,
  ⟨(some 19), .mv (.t 10), none, 0⟩,
  ⟨(some 20), .bin .add (.t 18) (.t 19), none, 0⟩,
  ⟨(some 21), .conv .u64 (.t 20), none, 0⟩,
  ⟨(some 22), .bin .shr (.t 21) (.k (.d (.i .u64 1))), none, 0⟩,
  ⟨(some 23), .conv .i64 (.t 22), none, 0⟩,
  ⟨(some 11), .mv (.t 23), none, 0⟩]) (
.seq (.region false [
  ⟨(some 24), .mv (.t 2), none, 0⟩,
  ⟨(some 25), .mv (.t 0), none, 0⟩,
  ⟨(some 26), .mv (.t 11), none, 0⟩,
  ⟨(some 27), .ia 4 (.t 25) (.t 26), none, 0⟩,
  ⟨(some 28), .ld true 4 (.t 27), none, 0⟩,
  ⟨(some 29), .mv (.t 1), none, 0⟩,
  ⟨(some 30), .callv (.t 24) [(.t 28), (.t 29)] 4 true, none, 0⟩,
  ⟨(some 31), .bin .lss (.t 30) (.k (.d (.i .i64 0))), none, 0⟩]) (
.cond (.t 31) (
.region false [
  ⟨(some 32), .mv (.t 11), none, 0⟩,
  ⟨(some 33), .bin .add (.t 32) (.k (.d (.i .i64 1))), none, 0⟩,
  ⟨(some 9), .mv (.t 33), none, 0⟩]) (.region false [
  ⟨(some 34), .mv (.t 11), none, 0⟩,
  ⟨(some 10), .mv (.t 34), none, 0⟩])))))))) (
.seq (.region false [
  ⟨(some 35), .mv (.t 9), none, 0⟩,
  ⟨(some 36), .mv (.t 9), none, 0⟩,
  ⟨(some 37), .mv (.t 8), none, 0⟩,
  ⟨(some 38), .bin .lss (.t 36) (.t 37), none, 0⟩,
  ⟨(some 39), .mv (.t 38), none, 0⟩,
  ⟨(some 40), .mv (.t 2), (some (39, true)), 0⟩,
  ⟨(some 41), .mv (.t 0), (some (39, true)), 0⟩,
  ⟨(some 42), .mv (.t 9), (some (39, true)), 0⟩,
  ⟨(some 43), .ia 4 (.t 41) (.t 42), (some (39, true)), 0⟩,
  ⟨(some 44), .ld true 4 (.t 43), (some (39, true)), 0⟩,
  ⟨(some 45), .mv (.t 1), (some (39, true)), 0⟩,
  ⟨(some 46), .callv (.t 40) [(.t 44), (.t 45)] 4 true, (some (39, true)), 0⟩,
  ⟨(some 47), .bin .eql (.t 46) (.k (.d (.i .i64 0))), (some (39, true)), 0⟩,
  ⟨(some 48), .pick (.t 39) (.t 47) (.k (.d (.b false))), none, 0⟩,
  ⟨(some 6), .mv (.t 35), none, 0⟩,
  ⟨(some 7), .mv (.t 48), none, 0⟩]) (
.ret))))), [.slot 6, .slot 7]⟩
def n150 : Notes := ⟨[⟨[0, 1, 2, 8, 9, 10], [], [], [], [], true⟩], []⟩

/-- lemmata/val.rises(lemmata/api.Val) -/
def c151 : CFn := ⟨.seq (.region false [
  ⟨(some 4), .mv (.k (.d (.b false))), none, 0⟩]) (
.seq (.seq (.region false [
  ⟨(some 6), .mv (.t 0), none, 0⟩,
  ⟨(some 7), .len 0 (.t 6), none, 0⟩,
  ⟨(some 8), .mv (.k (.d (.i .i64 0))), none, 0⟩]) (
.block 0 (.loop ⟨[0, 1, 7, 8], [], [], [], [], true⟩ (.seq (.region false [
  ⟨(some 9), .bin .lss (.t 8) (.t 7), none, 0⟩]) (
.seq (.cond (.t 9) (
.skip) (.exit 0)) (
.seq (.block 1 (.seq (.region false [
  ⟨(some 10), .mv (.t 8), none, 0⟩,
  ⟨(some 5), .mv (.t 10), none, 0⟩]) (
.seq (.region true [
  ⟨(some 11), .mv (.t 5), none, 0⟩,
  ⟨(some 12), .bin .gtr (.t 11) (.k (.d (.i .i64 0))), none, 1⟩,
  ⟨(some 13), .mv (.t 12), none, 3⟩,
  ⟨(some 14), .mv (.t 1), (some (13, true)), 7⟩,
  ⟨(some 15), .mv (.t 0), (some (13, true)), 7⟩,
  ⟨(some 16), .mv (.t 5), (some (13, true)), 7⟩,
  ⟨(some 17), .bin .sub (.t 16) (.k (.d (.i .i64 1))), (some (13, true)), 39⟩,
  ⟨(some 18), .ia 4 (.t 15) (.t 17), (some (13, true)), 119⟩,
  ⟨(some 19), .ld true 4 (.t 18), (some (13, true)), 247⟩,
  ⟨(some 20), .mv (.t 0), (some (13, true)), 7⟩,
  ⟨(some 21), .mv (.t 5), (some (13, true)), 7⟩,
  ⟨(some 22), .ia 4 (.t 20) (.t 21), (some (13, true)), 1543⟩,
  ⟨(some 23), .ld true 4 (.t 22), (some (13, true)), 3591⟩,
  ⟨(some 24), .callv (.t 14) [(.t 19), (.t 23)] 4 true, (some (13, true)), 8191⟩,
  ⟨(some 25), .bin .geq (.t 24) (.k (.d (.i .i64 0))), (some (13, true)), 16383⟩,
  ⟨(some 26), .pick (.t 13) (.t 25) (.k (.d (.b false))), none, 32767⟩]) (
.cond (.t 26) (
.seq (.region false [
  ⟨(some 4), .mv (.k (.d (.b false))), none, 0⟩]) (
.ret)) (.skip))))) (
.region false [
  ⟨(some 27), .bin .add (.t 8) (.k (.d (.i .i64 1))), none, 0⟩,
  ⟨(some 8), .mv (.t 27), none, 0⟩]))))))) (
.seq (.region false [
  ⟨(some 4), .mv (.k (.d (.b true))), none, 0⟩]) (
.ret))), [.slot 4]⟩
def n151 : Notes := ⟨[⟨[0, 1, 7, 8], [], [], [], [], true⟩], []⟩

/-- lemmata/val.row$1 -/
def c152 : CFn := ⟨.seq (.region false [
  ⟨(some 1), .box (.t 0), none, 0⟩,
  ⟨(some 2), .mv (.k (.d (.b false))), none, 0⟩]) (
.seq (.region false [
  ⟨(some 3), .ld true 4 (.t 1), none, 0⟩,
  ⟨(some 4), .call 153 [(.t 3)] 0 true, none, 0⟩,
  ⟨(some 5), .un .not (.t 4), none, 0⟩,
  ⟨(some 2), .mv (.t 5), none, 0⟩]) (
.ret)), [.slot 2]⟩
def n152 : Notes := ⟨[], []⟩

/-- lemmata/val.pair -/
def c153 : CFn := ⟨.seq (.region false [
  ⟨(some 1), .box (.t 0), none, 0⟩,
  ⟨(some 2), .mv (.k (.d (.b false))), none, 0⟩]) (
.seq (.region false [
  ⟨(some 3), .fa 0 (.t 1), none, 0⟩,
  ⟨(some 4), .ld false 1 (.t 3), none, 0⟩,
  ⟨(some 5), .bin .eql (.t 4) (.k (.d (.i .i64 4))), none, 0⟩,
  ⟨(some 6), .mv (.t 5), none, 0⟩,
  ⟨(some 7), .fa 3 (.t 1), (some (6, true)), 0⟩,
  ⟨(some 8), .ld false 1 (.t 7), (some (6, true)), 0⟩,
  ⟨(some 9), .len 0 (.t 8), (some (6, true)), 0⟩,
  ⟨(some 10), .bin .eql (.t 9) (.k (.d (.i .i64 2))), (some (6, true)), 0⟩,
  ⟨(some 11), .pick (.t 6) (.t 10) (.k (.d (.b false))), none, 0⟩,
  ⟨(some 12), .mv (.t 11), none, 0⟩,
  ⟨(some 13), .fa 3 (.t 1), (some (12, true)), 0⟩,
  ⟨(some 14), .ld false 1 (.t 13), (some (12, true)), 0⟩,
  ⟨(some 15), .ia 4 (.t 14) (.k (.d (.i .i64 0))), (some (12, true)), 0⟩,
  ⟨(some 16), .fa 0 (.t 15), (some (12, true)), 0⟩,
  ⟨(some 17), .ld false 1 (.t 16), (some (12, true)), 0⟩,
  ⟨(some 18), .bin .eql (.t 17) (.k (.d (.i .i64 3))), (some (12, true)), 0⟩,
  ⟨(some 19), .pick (.t 12) (.t 18) (.k (.d (.b false))), none, 0⟩,
  ⟨(some 2), .mv (.t 19), none, 0⟩]) (
.ret)), [.slot 2]⟩
def n153 : Notes := ⟨[], []⟩

/-- lemmata/val.row$2 -/
def c154 : CFn := ⟨.seq (.region false [
  ⟨(some 2), .box (.t 0), none, 0⟩,
  ⟨(some 3), .box (.t 1), none, 0⟩,
  ⟨(some 4), .mv (.k (.d (.i .i64 0))), none, 0⟩]) (
.seq (.region true [
  ⟨(some 5), .ld true 4 (.t 2), none, 0⟩,
  ⟨(some 6), .call 137 [(.t 5)] 0 true, none, 1⟩,
  ⟨(some 7), .ld true 4 (.t 3), none, 0⟩,
  ⟨(some 8), .call 137 [(.t 7)] 0 true, none, 7⟩,
  ⟨(some 9), .call 129 [(.t 6), (.t 8)] 0 true, none, 15⟩,
  ⟨(some 4), .mv (.t 9), none, 31⟩]) (
.ret)), [.slot 4]⟩
def n154 : Notes := ⟨[], []⟩

/-- slices.IndexFunc(()lemmata/api.Val,lemmata/api.Val) -/
def c155 : CFn := ⟨.seq (.region false [
  ⟨(some 4), .mv (.k (.d (.i .i64 0))), none, 0⟩]) (
.seq (.seq (.region false [
  ⟨(some 6), .mv (.t 0), none, 0⟩,
  ⟨(some 7), .len 0 (.t 6), none, 0⟩,
  ⟨(some 8), .mv (.k (.d (.i .i64 0))), none, 0⟩]) (
.block 0 (.loop ⟨[0, 1, 7, 8], [], [], [], [], true⟩ (.seq (.region false [
  ⟨(some 9), .bin .lss (.t 8) (.t 7), none, 0⟩]) (
.seq (.cond (.t 9) (
.skip) (.exit 0)) (
.seq (.block 1 (.seq (.region false [
  ⟨(some 10), .mv (.t 8), none, 0⟩,
  ⟨(some 5), .mv (.t 10), none, 0⟩]) (
.seq (.region false [
  ⟨(some 11), .mv (.t 1), none, 0⟩,
  ⟨(some 12), .mv (.t 0), none, 0⟩,
  ⟨(some 13), .mv (.t 5), none, 0⟩,
  ⟨(some 14), .ia 4 (.t 12) (.t 13), none, 0⟩,
  ⟨(some 15), .ld true 4 (.t 14), none, 0⟩,
  ⟨(some 16), .callv (.t 11) [(.t 15)] 4 true, none, 0⟩]) (
.cond (.t 16) (
.seq (.region false [
  ⟨(some 17), .mv (.t 5), none, 0⟩,
  ⟨(some 4), .mv (.t 17), none, 0⟩]) (
.ret)) (.skip))))) (
.region false [
  ⟨(some 18), .bin .add (.t 8) (.k (.d (.i .i64 1))), none, 0⟩,
  ⟨(some 8), .mv (.t 18), none, 0⟩]))))))) (
.seq (.region false [
  ⟨(some 4), .mv (.k (.d (.i .i64 (-1)))), none, 0⟩]) (
.ret))), [.slot 4]⟩
def n155 : Notes := ⟨[⟨[0, 1, 7, 8], [], [], [], [], true⟩], []⟩

/-- slices.rotateLeft(lemmata/api.Val) -/
def c156 : CFn := ⟨.seq (.region false [
  ⟨(some 4), .mv (.t 0), none, 0⟩,
  ⟨(some 5), .mv (.t 1), none, 0⟩,
  ⟨(some 6), .slc 4 (.t 4) none (some (.t 5)), none, 0⟩,
  ⟨(some 7), .call 157 [(.t 6)] 0 true, none, 0⟩]) (
.seq (.region false [
  ⟨(some 8), .mv (.t 0), none, 0⟩,
  ⟨(some 9), .mv (.t 1), none, 0⟩,
  ⟨(some 10), .slc 4 (.t 8) (some (.t 9)) none, none, 0⟩,
  ⟨(some 11), .call 157 [(.t 10)] 0 true, none, 0⟩]) (
.region false [
  ⟨(some 12), .mv (.t 0), none, 0⟩,
  ⟨(some 13), .call 157 [(.t 12)] 0 true, none, 0⟩])), []⟩
def n156 : Notes := ⟨[], []⟩

/-- slices.Reverse(()lemmata/api.Val,lemmata/api.Val) -/
def c157 : CFn := ⟨.seq (.region false [
  ⟨(some 4), .mv (.t 0), none, 0⟩,
  ⟨(some 5), .len 0 (.t 4), none, 0⟩,
  ⟨(some 6), .bin .sub (.t 5) (.k (.d (.i .i64 1))), none, 0⟩,
  ⟨(some 2), .mv (.k (.d (.i .i64 0))), none, 0⟩,
  ⟨(some 3), .mv (.t 6), none, 0⟩]) (
.block 0 (.loop ⟨[0, 2, 3], [], [], [], [], true⟩ (.seq (.seq (.region false [
  ⟨(some 7), .mv (.t 2), none, 0⟩,
  ⟨(some 8), .mv (.t 3), none, 0⟩,
  ⟨(some 9), .bin .lss (.t 7) (.t 8), none, 0⟩]) (
.cond (.t 9) (
.skip) (.exit 0))) (
.seq (.block 1 (.region true [
  ⟨(some 14), .mv (.t 0), none, 0⟩,
  ⟨(some 15), .mv (.t 2), none, 0⟩,
  ⟨(some 16), .mv (.t 0), none, 0⟩,
  ⟨(some 17), .mv (.t 3), none, 0⟩,
  ⟨(some 18), .mv (.t 0), none, 0⟩,
  ⟨(some 19), .mv (.t 3), none, 0⟩,
  ⟨(some 20), .ia 4 (.t 18) (.t 19), none, 48⟩,
  ⟨(some 21), .ld true 4 (.t 20), none, 112⟩,
  ⟨(some 22), .mv (.t 0), none, 0⟩,
  ⟨(some 23), .mv (.t 2), none, 0⟩,
  ⟨(some 24), .ia 4 (.t 22) (.t 23), none, 768⟩,
  ⟨(some 25), .ld true 4 (.t 24), none, 1792⟩,
  ⟨(some 26), .ia 4 (.t 14) (.t 15), none, 4083⟩,
  ⟨none, .st 4 (.t 26) (.t 21), none, 8179⟩,
  ⟨(some 27), .ia 4 (.t 16) (.t 17), none, 16383⟩,
  ⟨none, .st 4 (.t 27) (.t 25), none, 32767⟩])) (
.region false [
  ⟨(some 10), .mv (.t 2), none, 0⟩,
  ⟨(some 11), .bin .add (.t 10) (.k (.d (.i .i64 1))), none, 0⟩,
  ⟨(some 12), .mv (.t 3), none, 0⟩,
  ⟨(some 13), .bin .sub (.t 12) (.k (.d (.i .i64 1))), none, 0⟩,
  ⟨(some 2), .mv (.t 11), none, 0⟩,
  ⟨(some 3), .mv (.t 13), none, 0⟩]))))), []⟩
def n157 : Notes := ⟨[⟨[0, 2, 3], [], [], [], [], true⟩], []⟩

end Ab
