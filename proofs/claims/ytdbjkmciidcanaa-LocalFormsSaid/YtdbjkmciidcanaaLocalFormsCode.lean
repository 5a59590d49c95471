/-
  Compiled functions: printed by a program of the workbench; the kernel checks each against the model's code.
-/
import Derived.Test.YtdbjkmciidcanaaPack4
namespace Ab

/-- lemmata/val.May -/
def c111 : CFn := ⟨.seq (.region false [
  ⟨(some 1), .box (.t 0), none, 0⟩,
  ⟨(some 2), .mv (.k (.d (.b false))), none, 0⟩]) (
.seq (.region false [
  ⟨(some 3), .ld true 4 (.t 1), none, 0⟩,
  ⟨(some 4), .call 112 [(.t 3)] 0 true, none, 0⟩,
  ⟨(some 5), .bin .leq (.t 4) (.k (.d (.i .i64 60))), none, 0⟩,
  ⟨(some 6), .mv (.t 5), none, 0⟩,
  ⟨(some 7), .ld true 4 (.t 1), (some (6, true)), 0⟩,
  ⟨(some 8), .call 125 [(.t 7)] 0 true, (some (6, true)), 0⟩,
  ⟨(some 9), .pick (.t 6) (.t 8) (.k (.d (.b false))), none, 0⟩,
  ⟨(some 2), .mv (.t 9), none, 0⟩]) (
.ret)), [.slot 2]⟩
def n111 : Notes := ⟨[], []⟩

/-- lemmata/val.Size -/
def c112 : CFn := ⟨.seq (.region false [
  ⟨(some 1), .box (.t 0), none, 0⟩,
  ⟨(some 2), .mv (.k (.d (.i .i64 0))), none, 0⟩]) (
.seq (.region false [
  ⟨(some 6), .fa 2 (.t 1), none, 0⟩,
  ⟨(some 7), .ld false 1 (.t 6), none, 0⟩,
  ⟨(some 8), .len 1 (.t 7), none, 0⟩,
  ⟨(some 9), .bin .quo (.t 8) (.k (.d (.i .i64 16))), none, 0⟩,
  ⟨(some 10), .bin .add (.k (.d (.i .i64 1))) (.t 9), none, 0⟩,
  ⟨(some 3), .mv (.t 10), none, 0⟩]) (
.seq (.seq (.region false [
  ⟨(some 11), .fa 3 (.t 1), none, 0⟩,
  ⟨(some 12), .ld false 1 (.t 11), none, 0⟩,
  ⟨(some 13), .len 0 (.t 12), none, 0⟩,
  ⟨(some 14), .mv (.k (.d (.i .i64 0))), none, 0⟩]) (
.block 0 (.loop ⟨[3, 12, 13, 14], [], [], [], [], true⟩ (.seq (.region false [
  ⟨(some 15), .bin .lss (.t 14) (.t 13), none, 0⟩]) (
.seq (.cond (.t 15) (
.skip) (.exit 0)) (
.seq (.block 1 (.seq (.region false [
  ⟨(some 16), .ia 4 (.t 12) (.t 14), none, 0⟩,
  ⟨(some 17), .ld true 4 (.t 16), none, 0⟩,
  ⟨(some 5), .zero (.agg [(.d (.i .i64 0)), (.d (.i .i64 0)), (.d (.s [])), (.nil 4)]), none, 0⟩,
  ⟨none, .st 4 (.t 5) (.t 17), none, 0⟩]) (
.region false [
  ⟨(some 18), .mv (.t 3), none, 0⟩,
  ⟨(some 19), .ld true 4 (.t 5), none, 0⟩,
  ⟨(some 20), .call 112 [(.t 19)] 0 true, none, 0⟩,
  ⟨(some 21), .bin .add (.t 18) (.t 20), none, 0⟩,
  ⟨(some 3), .mv (.t 21), none, 0⟩]))) (
.region false [
  ⟨(some 22), .bin .add (.t 14) (.k (.d (.i .i64 1))), none, 0⟩,
  ⟨(some 14), .mv (.t 22), none, 0⟩]))))))) (
.seq (.region false [
  ⟨(some 23), .mv (.t 3), none, 0⟩,
  ⟨(some 2), .mv (.t 23), none, 0⟩]) (
.ret)))), [.slot 2]⟩
def n112 : Notes := ⟨[⟨[3, 12, 13, 14], [], [], [], [], true⟩], []⟩

/-- lemmata/val.Compare -/
def c114 : CFn := ⟨.seq (.region false [
  ⟨(some 2), .box (.t 0), none, 0⟩,
  ⟨(some 3), .box (.t 1), none, 0⟩,
  ⟨(some 4), .mv (.k (.d (.i .i64 0))), none, 0⟩]) (
.seq (.region true [
  ⟨(some 5), .fa 0 (.t 2), none, 0⟩,
  ⟨(some 6), .ld false 1 (.t 5), none, 1⟩,
  ⟨(some 7), .fa 0 (.t 3), none, 0⟩,
  ⟨(some 8), .ld false 1 (.t 7), none, 4⟩,
  ⟨(some 9), .call 127 [(.t 6), (.t 8)] 0 true, none, 15⟩,
  ⟨(some 10), .fa 1 (.t 2), none, 0⟩,
  ⟨(some 11), .ld false 1 (.t 10), none, 32⟩,
  ⟨(some 12), .fa 1 (.t 3), none, 0⟩,
  ⟨(some 13), .ld false 1 (.t 12), none, 128⟩,
  ⟨(some 14), .call 128 [(.t 11), (.t 13)] 0 true, none, 511⟩,
  ⟨(some 15), .fa 2 (.t 2), none, 0⟩,
  ⟨(some 16), .ld false 1 (.t 15), none, 1024⟩,
  ⟨(some 17), .fa 2 (.t 3), none, 0⟩,
  ⟨(some 18), .ld false 1 (.t 17), none, 4096⟩,
  ⟨(some 19), .call 129 [(.t 16), (.t 18)] 0 true, none, 16383⟩,
  ⟨(some 20), .fa 3 (.t 2), none, 0⟩,
  ⟨(some 21), .ld false 1 (.t 20), none, 32768⟩,
  ⟨(some 22), .fa 3 (.t 3), none, 0⟩,
  ⟨(some 23), .ld false 1 (.t 22), none, 131072⟩,
  ⟨(some 24), .call 130 [(.t 21), (.t 23), (.k (.d (.f 114 [] [])))] 4 true, none, 524287⟩,
  ⟨(some 25), .bsl 1 4 [(.i .i64 0)] [(0, (.t 9)), (1, (.t 14)), (2, (.t 19)), (3, (.t 24))], none, 1048575⟩,
  ⟨(some 26), .call 126 [(.t 25)] 0 true, none, 2097151⟩,
  ⟨(some 4), .mv (.t 26), none, 4194303⟩]) (
.ret)), [.slot 4]⟩
def n114 : Notes := ⟨[], []⟩

/-- lemmata/val.may -/
def c125 : CFn := ⟨.seq (.region false [
  ⟨(some 1), .box (.t 0), none, 0⟩,
  ⟨(some 2), .mv (.k (.d (.b false))), none, 0⟩]) (
.seq (.seq (.region false [
  ⟨(some 3), .fa 0 (.t 1), none, 0⟩,
  ⟨(some 4), .ld false 1 (.t 3), none, 0⟩,
  ⟨(some 5), .bin .lss (.t 4) (.k (.d (.i .i64 1))), none, 0⟩,
  ⟨(some 6), .mv (.t 5), none, 0⟩,
  ⟨(some 7), .fa 0 (.t 1), (some (6, false)), 0⟩,
  ⟨(some 8), .ld false 1 (.t 7), (some (6, false)), 0⟩,
  ⟨(some 9), .bin .gtr (.t 8) (.k (.d (.i .i64 7))), (some (6, false)), 0⟩,
  ⟨(some 10), .pick (.t 6) (.k (.d (.b true))) (.t 9), none, 0⟩,
  ⟨(some 11), .mv (.t 10), none, 0⟩,
  ⟨(some 12), .ld true 4 (.t 1), (some (11, false)), 0⟩,
  ⟨(some 13), .call 139 [(.t 12)] 0 true, (some (11, false)), 0⟩,
  ⟨(some 14), .un .not (.t 13), (some (11, false)), 0⟩,
  ⟨(some 15), .pick (.t 11) (.k (.d (.b true))) (.t 14), none, 0⟩,
  ⟨(some 16), .mv (.t 15), none, 0⟩,
  ⟨(some 17), .fa 0 (.t 1), (some (16, false)), 0⟩,
  ⟨(some 18), .ld false 1 (.t 17), (some (16, false)), 0⟩,
  ⟨(some 19), .bin .neq (.t 18) (.k (.d (.i .i64 3))), (some (16, false)), 0⟩,
  ⟨(some 20), .mv (.t 19), (some (16, false)), 0⟩,
  ⟨(some 21), .fa 2 (.t 1), (some (20, true)), 0⟩,
  ⟨(some 22), .ld false 1 (.t 21), (some (20, true)), 0⟩,
  ⟨(some 23), .bin .neq (.t 22) (.k (.d (.s []))), (some (20, true)), 0⟩,
  ⟨(some 24), .pick (.t 20) (.t 23) (.k (.d (.b false))), (some (16, false)), 0⟩,
  ⟨(some 25), .pick (.t 16) (.k (.d (.b true))) (.t 24), none, 0⟩,
  ⟨(some 26), .mv (.t 25), none, 0⟩,
  ⟨(some 27), .ld true 4 (.t 1), (some (26, false)), 0⟩,
  ⟨(some 28), .call 140 [(.t 27)] 0 true, (some (26, false)), 0⟩,
  ⟨(some 29), .un .not (.t 28), (some (26, false)), 0⟩,
  ⟨(some 30), .pick (.t 26) (.k (.d (.b true))) (.t 29), none, 0⟩]) (
.cond (.t 30) (
.seq (.region false [
  ⟨(some 2), .mv (.k (.d (.b false))), none, 0⟩]) (
.ret)) (.skip))) (
.seq (.region false [
  ⟨(some 31), .fa 3 (.t 1), none, 0⟩,
  ⟨(some 32), .ld false 1 (.t 31), none, 0⟩,
  ⟨(some 33), .call 141 [(.t 32), (.k (.d (.f 142 [] [])))] 4 true, none, 0⟩,
  ⟨(some 34), .un .not (.t 33), none, 0⟩,
  ⟨(some 2), .mv (.t 34), none, 0⟩]) (
.ret))), [.slot 2]⟩
def n125 : Notes := ⟨[], []⟩

/-- cmp.Or(int) -/
def c126 : CFn := ⟨.seq (.region false [
  ⟨(some 2), .mv (.k (.d (.i .i64 0))), none, 0⟩]) (
.seq (.region false [
  ⟨(some 3), .mv (.k (.d (.i .i64 0))), none, 0⟩]) (
.seq (.seq (.region false [
  ⟨(some 6), .mv (.t 0), none, 0⟩,
  ⟨(some 7), .len 0 (.t 6), none, 0⟩,
  ⟨(some 8), .mv (.k (.d (.i .i64 0))), none, 0⟩]) (
.block 0 (.loop ⟨[3, 6, 7, 8], [], [], [], [], true⟩ (.seq (.region false [
  ⟨(some 9), .bin .lss (.t 8) (.t 7), none, 0⟩]) (
.seq (.cond (.t 9) (
.skip) (.exit 0)) (
.seq (.block 1 (.seq (.region false [
  ⟨(some 10), .ia 1 (.t 6) (.t 8), none, 0⟩,
  ⟨(some 11), .ld false 1 (.t 10), none, 0⟩,
  ⟨(some 5), .mv (.t 11), none, 0⟩]) (
.seq (.region false [
  ⟨(some 12), .mv (.t 5), none, 0⟩,
  ⟨(some 13), .mv (.t 3), none, 0⟩,
  ⟨(some 14), .bin .neq (.t 12) (.t 13), none, 0⟩]) (
.cond (.t 14) (
.seq (.region false [
  ⟨(some 15), .mv (.t 5), none, 0⟩,
  ⟨(some 2), .mv (.t 15), none, 0⟩]) (
.ret)) (.skip))))) (
.region false [
  ⟨(some 16), .bin .add (.t 8) (.k (.d (.i .i64 1))), none, 0⟩,
  ⟨(some 8), .mv (.t 16), none, 0⟩]))))))) (
.seq (.region false [
  ⟨(some 17), .mv (.t 3), none, 0⟩,
  ⟨(some 2), .mv (.t 17), none, 0⟩]) (
.ret)))), [.slot 2]⟩
def n126 : Notes := ⟨[⟨[3, 6, 7, 8], [], [], [], [], true⟩], []⟩

/-- cmp.Compare(int) -/
def c127 : CFn := ⟨.seq (.region false [
  ⟨(some 4), .mv (.k (.d (.i .i64 0))), none, 0⟩]) (
.seq (.region false [
  ⟨(some 7), .mv (.t 0), none, 0⟩,
  ⟨(some 8), .call 143 [(.t 7)] 0 true, none, 0⟩,
  ⟨(some 5), .mv (.t 8), none, 0⟩]) (
.seq (.region false [
  ⟨(some 9), .mv (.t 1), none, 0⟩,
  ⟨(some 10), .call 143 [(.t 9)] 0 true, none, 0⟩,
  ⟨(some 6), .mv (.t 10), none, 0⟩]) (
.seq (.seq (.region false [
  ⟨(some 11), .mv (.t 5), none, 0⟩]) (
.cond (.t 11) (
.seq (.seq (.region false [
  ⟨(some 12), .mv (.t 6), none, 0⟩]) (
.cond (.t 12) (
.seq (.region false [
  ⟨(some 4), .mv (.k (.d (.i .i64 0))), none, 0⟩]) (
.ret)) (.skip))) (
.seq (.region false [
  ⟨(some 4), .mv (.k (.d (.i .i64 (-1)))), none, 0⟩]) (
.ret))) (.skip))) (
.seq (.seq (.region false [
  ⟨(some 13), .mv (.t 6), none, 0⟩]) (
.cond (.t 13) (
.seq (.region false [
  ⟨(some 4), .mv (.k (.d (.i .i64 1))), none, 0⟩]) (
.ret)) (.skip))) (
.seq (.seq (.region false [
  ⟨(some 14), .mv (.t 0), none, 0⟩,
  ⟨(some 15), .mv (.t 1), none, 0⟩,
  ⟨(some 16), .bin .lss (.t 14) (.t 15), none, 0⟩]) (
.cond (.t 16) (
.seq (.region false [
  ⟨(some 4), .mv (.k (.d (.i .i64 (-1)))), none, 0⟩]) (
.ret)) (.skip))) (
.seq (.seq (.region false [
  ⟨(some 17), .mv (.t 0), none, 0⟩,
  ⟨(some 18), .mv (.t 1), none, 0⟩,
  ⟨(some 19), .bin .gtr (.t 17) (.t 18), none, 0⟩]) (
.cond (.t 19) (
.seq (.region false [
  ⟨(some 4), .mv (.k (.d (.i .i64 1))), none, 0⟩]) (
.ret)) (.skip))) (
.seq (.region false [
  ⟨(some 4), .mv (.k (.d (.i .i64 0))), none, 0⟩]) (
.ret)))))))), [.slot 4]⟩
def n127 : Notes := ⟨[], []⟩

/-- cmp.Compare(int64) -/
def c128 : CFn := ⟨.seq (.region false [
  ⟨(some 4), .mv (.k (.d (.i .i64 0))), none, 0⟩]) (
.seq (.region false [
  ⟨(some 7), .mv (.t 0), none, 0⟩,
  ⟨(some 8), .call 144 [(.t 7)] 0 true, none, 0⟩,
  ⟨(some 5), .mv (.t 8), none, 0⟩]) (
.seq (.region false [
  ⟨(some 9), .mv (.t 1), none, 0⟩,
  ⟨(some 10), .call 144 [(.t 9)] 0 true, none, 0⟩,
  ⟨(some 6), .mv (.t 10), none, 0⟩]) (
.seq (.seq (.region false [
  ⟨(some 11), .mv (.t 5), none, 0⟩]) (
.cond (.t 11) (
.seq (.seq (.region false [
  ⟨(some 12), .mv (.t 6), none, 0⟩]) (
.cond (.t 12) (
.seq (.region false [
  ⟨(some 4), .mv (.k (.d (.i .i64 0))), none, 0⟩]) (
.ret)) (.skip))) (
.seq (.region false [
  ⟨(some 4), .mv (.k (.d (.i .i64 (-1)))), none, 0⟩]) (
.ret))) (.skip))) (
.seq (.seq (.region false [
  ⟨(some 13), .mv (.t 6), none, 0⟩]) (
.cond (.t 13) (
.seq (.region false [
  ⟨(some 4), .mv (.k (.d (.i .i64 1))), none, 0⟩]) (
.ret)) (.skip))) (
.seq (.seq (.region false [
  ⟨(some 14), .mv (.t 0), none, 0⟩,
  ⟨(some 15), .mv (.t 1), none, 0⟩,
  ⟨(some 16), .bin .lss (.t 14) (.t 15), none, 0⟩]) (
.cond (.t 16) (
.seq (.region false [
  ⟨(some 4), .mv (.k (.d (.i .i64 (-1)))), none, 0⟩]) (
.ret)) (.skip))) (
.seq (.seq (.region false [
  ⟨(some 17), .mv (.t 0), none, 0⟩,
  ⟨(some 18), .mv (.t 1), none, 0⟩,
  ⟨(some 19), .bin .gtr (.t 17) (.t 18), none, 0⟩]) (
.cond (.t 19) (
.seq (.region false [
  ⟨(some 4), .mv (.k (.d (.i .i64 1))), none, 0⟩]) (
.ret)) (.skip))) (
.seq (.region false [
  ⟨(some 4), .mv (.k (.d (.i .i64 0))), none, 0⟩]) (
.ret)))))))), [.slot 4]⟩
def n128 : Notes := ⟨[], []⟩

/-- cmp.Compare(string) -/
def c129 : CFn := ⟨.seq (.region false [
  ⟨(some 4), .mv (.k (.d (.i .i64 0))), none, 0⟩]) (
.seq (.region false [
  ⟨(some 7), .mv (.t 0), none, 0⟩,
  ⟨(some 8), .call 145 [(.t 7)] 0 true, none, 0⟩,
  ⟨(some 5), .mv (.t 8), none, 0⟩]) (
.seq (.region false [
  ⟨(some 9), .mv (.t 1), none, 0⟩,
  ⟨(some 10), .call 145 [(.t 9)] 0 true, none, 0⟩,
  ⟨(some 6), .mv (.t 10), none, 0⟩]) (
.seq (.seq (.region false [
  ⟨(some 11), .mv (.t 5), none, 0⟩]) (
.cond (.t 11) (
.seq (.seq (.region false [
  ⟨(some 12), .mv (.t 6), none, 0⟩]) (
.cond (.t 12) (
.seq (.region false [
  ⟨(some 4), .mv (.k (.d (.i .i64 0))), none, 0⟩]) (
.ret)) (.skip))) (
.seq (.region false [
  ⟨(some 4), .mv (.k (.d (.i .i64 (-1)))), none, 0⟩]) (
.ret))) (.skip))) (
.seq (.seq (.region false [
  ⟨(some 13), .mv (.t 6), none, 0⟩]) (
.cond (.t 13) (
.seq (.region false [
  ⟨(some 4), .mv (.k (.d (.i .i64 1))), none, 0⟩]) (
.ret)) (.skip))) (
.seq (.seq (.region false [
  ⟨(some 14), .mv (.t 0), none, 0⟩,
  ⟨(some 15), .mv (.t 1), none, 0⟩,
  ⟨(some 16), .bin .lss (.t 14) (.t 15), none, 0⟩]) (
.cond (.t 16) (
.seq (.region false [
  ⟨(some 4), .mv (.k (.d (.i .i64 (-1)))), none, 0⟩]) (
.ret)) (.skip))) (
.seq (.seq (.region false [
  ⟨(some 17), .mv (.t 0), none, 0⟩,
  ⟨(some 18), .mv (.t 1), none, 0⟩,
  ⟨(some 19), .bin .gtr (.t 17) (.t 18), none, 0⟩]) (
.cond (.t 19) (
.seq (.region false [
  ⟨(some 4), .mv (.k (.d (.i .i64 1))), none, 0⟩]) (
.ret)) (.skip))) (
.seq (.region false [
  ⟨(some 4), .mv (.k (.d (.i .i64 0))), none, 0⟩]) (
.ret)))))))), [.slot 4]⟩
def n129 : Notes := ⟨[], []⟩

/-- slices.CompareFunc(()lemmata/api.Val,()lemmata/api.Val,lemmata/api.Val,lemmata/api.Val) -/
def c130 : CFn := ⟨.seq (.region false [
  ⟨(some 6), .mv (.k (.d (.i .i64 0))), none, 0⟩]) (
.seq (.seq (.region false [
  ⟨(some 11), .mv (.t 0), none, 0⟩,
  ⟨(some 12), .len 0 (.t 11), none, 0⟩,
  ⟨(some 13), .mv (.k (.d (.i .i64 0))), none, 0⟩]) (
.block 0 (.loop ⟨[0, 1, 2, 11, 12, 13], [], [], [], [], true⟩ (.seq (.region false [
  ⟨(some 14), .bin .lss (.t 13) (.t 12), none, 0⟩]) (
.seq (.cond (.t 14) (
.skip) (.exit 0)) (
.seq (.block 1 (.seq (.region false [
  ⟨(some 15), .mv (.t 13), none, 0⟩,
  ⟨(some 16), .ia 4 (.t 11) (.t 13), none, 0⟩,
  ⟨(some 17), .ld true 4 (.t 16), none, 0⟩,
  ⟨(some 8), .zero (.agg [(.d (.i .i64 0)), (.d (.i .i64 0)), (.d (.s [])), (.nil 4)]), none, 0⟩,
  ⟨(some 7), .mv (.t 15), none, 0⟩,
  ⟨none, .st 4 (.t 8) (.t 17), none, 0⟩]) (
.seq (.seq (.region false [
  ⟨(some 18), .mv (.t 7), none, 0⟩,
  ⟨(some 19), .mv (.t 1), none, 0⟩,
  ⟨(some 20), .len 0 (.t 19), none, 0⟩,
  ⟨(some 21), .bin .geq (.t 18) (.t 20), none, 0⟩]) (
.cond (.t 21) (
.seq (.region false [
  ⟨(some 6), .mv (.k (.d (.i .i64 1))), none, 0⟩]) (
.ret)) (.skip))) (
.seq (.region false [
  ⟨(some 22), .mv (.t 1), none, 0⟩,
  ⟨(some 23), .mv (.t 7), none, 0⟩,
  ⟨(some 24), .ia 4 (.t 22) (.t 23), none, 0⟩,
  ⟨(some 25), .ld true 4 (.t 24), none, 0⟩,
  ⟨(some 9), .zero (.agg [(.d (.i .i64 0)), (.d (.i .i64 0)), (.d (.s [])), (.nil 4)]), none, 0⟩,
  ⟨none, .st 4 (.t 9) (.t 25), none, 0⟩]) (
.seq (.region false [
  ⟨(some 26), .mv (.t 2), none, 0⟩,
  ⟨(some 27), .ld true 4 (.t 8), none, 0⟩,
  ⟨(some 28), .ld true 4 (.t 9), none, 0⟩,
  ⟨(some 29), .callv (.t 26) [(.t 27), (.t 28)] 4 true, none, 0⟩,
  ⟨(some 10), .mv (.t 29), none, 0⟩]) (
.seq (.region false [
  ⟨(some 30), .mv (.t 10), none, 0⟩,
  ⟨(some 31), .bin .neq (.t 30) (.k (.d (.i .i64 0))), none, 0⟩]) (
.cond (.t 31) (
.seq (.region false [
  ⟨(some 32), .mv (.t 10), none, 0⟩,
  ⟨(some 6), .mv (.t 32), none, 0⟩]) (
.ret)) (.skip)))))))) (
.region false [
  ⟨(some 33), .bin .add (.t 13) (.k (.d (.i .i64 1))), none, 0⟩,
  ⟨(some 13), .mv (.t 33), none, 0⟩]))))))) (
.seq (.seq (.region false [
  ⟨(some 34), .mv (.t 0), none, 0⟩,
  ⟨(some 35), .len 0 (.t 34), none, 0⟩,
  ⟨(some 36), .mv (.t 1), none, 0⟩,
  ⟨(some 37), .len 0 (.t 36), none, 0⟩,
  ⟨(some 38), .bin .lss (.t 35) (.t 37), none, 0⟩]) (
.cond (.t 38) (
.seq (.region false [
  ⟨(some 6), .mv (.k (.d (.i .i64 (-1)))), none, 0⟩]) (
.ret)) (.skip))) (
.seq (.region false [
  ⟨(some 6), .mv (.k (.d (.i .i64 0))), none, 0⟩]) (
.ret)))), [.slot 6]⟩
def n130 : Notes := ⟨[⟨[0, 1, 2, 11, 12, 13], [], [], [], [], true⟩], []⟩

/-- lemmata/val.key -/
def c137 : CFn := ⟨.seq (.region false [
  ⟨(some 1), .box (.t 0), none, 0⟩,
  ⟨(some 2), .mv (.k (.d (.s []))), none, 0⟩]) (
.seq (.seq (.region false [
  ⟨(some 3), .fa 3 (.t 1), none, 0⟩,
  ⟨(some 4), .ld false 1 (.t 3), none, 0⟩,
  ⟨(some 5), .len 0 (.t 4), none, 0⟩,
  ⟨(some 6), .bin .eql (.t 5) (.k (.d (.i .i64 0))), none, 0⟩]) (
.cond (.t 6) (
.seq (.region false [
  ⟨(some 2), .mv (.k (.d (.s []))), none, 0⟩]) (
.ret)) (.skip))) (
.seq (.region false [
  ⟨(some 7), .fa 3 (.t 1), none, 0⟩,
  ⟨(some 8), .ld false 1 (.t 7), none, 0⟩,
  ⟨(some 9), .ia 4 (.t 8) (.k (.d (.i .i64 0))), none, 0⟩,
  ⟨(some 10), .fa 2 (.t 9), none, 0⟩,
  ⟨(some 11), .ld false 1 (.t 10), none, 0⟩,
  ⟨(some 2), .mv (.t 11), none, 0⟩]) (
.ret))), [.slot 2]⟩
def n137 : Notes := ⟨[], []⟩

/-- lemmata/val.number -/
def c139 : CFn := ⟨.seq (.region false [
  ⟨(some 1), .box (.t 0), none, 0⟩,
  ⟨(some 2), .mv (.k (.d (.b false))), none, 0⟩]) (
.seq (.seq (.region false [
  ⟨(some 3), .fa 0 (.t 1), none, 0⟩,
  ⟨(some 4), .ld false 1 (.t 3), none, 0⟩]) (
.block 0 (.seq (.region false [
  ⟨(some 6), .bin .eql (.t 4) (.k (.d (.i .i64 1))), none, 0⟩,
  ⟨(some 5), .mv (.t 6), none, 0⟩]) (
.cond (.t 5) (
.seq (.region false [
  ⟨(some 2), .mv (.k (.d (.b true))), none, 0⟩]) (
.ret)) (.seq (.region false [
  ⟨(some 8), .bin .eql (.t 4) (.k (.d (.i .i64 2))), none, 0⟩,
  ⟨(some 7), .mv (.t 8), none, 0⟩]) (
.cond (.t 7) (
.seq (.region false [
  ⟨(some 9), .fa 1 (.t 1), none, 0⟩,
  ⟨(some 10), .ld false 1 (.t 9), none, 0⟩,
  ⟨(some 11), .bin .eql (.t 10) (.k (.d (.i .i64 0))), none, 0⟩,
  ⟨(some 12), .mv (.t 11), none, 0⟩,
  ⟨(some 13), .fa 1 (.t 1), (some (12, false)), 0⟩,
  ⟨(some 14), .ld false 1 (.t 13), (some (12, false)), 0⟩,
  ⟨(some 15), .bin .eql (.t 14) (.k (.d (.i .i64 1))), (some (12, false)), 0⟩,
  ⟨(some 16), .pick (.t 12) (.k (.d (.b true))) (.t 15), none, 0⟩,
  ⟨(some 2), .mv (.t 16), none, 0⟩]) (
.ret)) (.seq (.region false [
  ⟨(some 18), .bin .eql (.t 4) (.k (.d (.i .i64 7))), none, 0⟩,
  ⟨(some 17), .mv (.t 18), none, 0⟩]) (
.cond (.t 17) (
.seq (.region false [
  ⟨(some 19), .fa 1 (.t 1), none, 0⟩,
  ⟨(some 20), .ld false 1 (.t 19), none, 0⟩,
  ⟨(some 21), .bin .geq (.t 20) (.k (.d (.i .i64 1))), none, 0⟩,
  ⟨(some 22), .mv (.t 21), none, 0⟩,
  ⟨(some 23), .fa 1 (.t 1), (some (22, true)), 0⟩,
  ⟨(some 24), .ld false 1 (.t 23), (some (22, true)), 0⟩,
  ⟨(some 25), .bin .leq (.t 24) (.k (.d (.i .i64 13))), (some (22, true)), 0⟩,
  ⟨(some 26), .pick (.t 22) (.t 25) (.k (.d (.b false))), none, 0⟩,
  ⟨(some 2), .mv (.t 26), none, 0⟩]) (
.ret)) (.skip))))))))) (
.seq (.region false [
  ⟨(some 27), .fa 1 (.t 1), none, 0⟩,
  ⟨(some 28), .ld false 1 (.t 27), none, 0⟩,
  ⟨(some 29), .bin .eql (.t 28) (.k (.d (.i .i64 0))), none, 0⟩,
  ⟨(some 2), .mv (.t 29), none, 0⟩]) (
.ret))), [.slot 2]⟩
def n139 : Notes := ⟨[], []⟩

/-- lemmata/val.row -/
def c140 : CFn := ⟨.seq (.region false [
  ⟨(some 1), .box (.t 0), none, 0⟩,
  ⟨(some 2), .mv (.k (.d (.b false))), none, 0⟩]) (
.seq (.seq (.region false [
  ⟨(some 3), .fa 0 (.t 1), none, 0⟩,
  ⟨(some 4), .ld false 1 (.t 3), none, 0⟩]) (
.block 0 (.seq (.region false [
  ⟨(some 6), .bin .eql (.t 4) (.k (.d (.i .i64 4))), none, 0⟩,
  ⟨(some 5), .mv (.t 6), none, 0⟩]) (
.cond (.t 5) (
.seq (.region false [
  ⟨(some 2), .mv (.k (.d (.b true))), none, 0⟩]) (
.ret)) (.seq (.region false [
  ⟨(some 8), .bin .eql (.t 4) (.k (.d (.i .i64 5))), none, 0⟩,
  ⟨(some 7), .mv (.t 8), none, 0⟩]) (
.cond (.t 7) (
.seq (.region false [
  ⟨(some 9), .fa 3 (.t 1), none, 0⟩,
  ⟨(some 10), .ld false 1 (.t 9), none, 0⟩,
  ⟨(some 11), .call 151 [(.t 10), (.k (.d (.f 114 [] [])))] 4 true, none, 0⟩,
  ⟨(some 2), .mv (.t 11), none, 0⟩]) (
.ret)) (.seq (.region false [
  ⟨(some 13), .bin .eql (.t 4) (.k (.d (.i .i64 6))), none, 0⟩,
  ⟨(some 12), .mv (.t 13), none, 0⟩]) (
.cond (.t 12) (
.seq (.region false [
  ⟨(some 14), .fa 3 (.t 1), none, 0⟩,
  ⟨(some 15), .ld false 1 (.t 14), none, 0⟩,
  ⟨(some 16), .call 141 [(.t 15), (.k (.d (.f 152 [] [])))] 4 true, none, 0⟩,
  ⟨(some 17), .un .not (.t 16), none, 0⟩,
  ⟨(some 18), .mv (.t 17), none, 0⟩,
  ⟨(some 19), .fa 3 (.t 1), (some (18, true)), 0⟩,
  ⟨(some 20), .ld false 1 (.t 19), (some (18, true)), 0⟩,
  ⟨(some 21), .call 151 [(.t 20), (.k (.d (.f 154 [] [])))] 4 true, (some (18, true)), 0⟩,
  ⟨(some 22), .pick (.t 18) (.t 21) (.k (.d (.b false))), none, 0⟩,
  ⟨(some 2), .mv (.t 22), none, 0⟩]) (
.ret)) (.skip))))))))) (
.seq (.region false [
  ⟨(some 23), .fa 3 (.t 1), none, 0⟩,
  ⟨(some 24), .ld false 1 (.t 23), none, 0⟩,
  ⟨(some 25), .len 0 (.t 24), none, 0⟩,
  ⟨(some 26), .bin .eql (.t 25) (.k (.d (.i .i64 0))), none, 0⟩,
  ⟨(some 2), .mv (.t 26), none, 0⟩]) (
.ret))), [.slot 2]⟩
def n140 : Notes := ⟨[], []⟩

/-- slices.ContainsFunc(()lemmata/api.Val,lemmata/api.Val) -/
def c141 : CFn := ⟨.seq (.region false [
  ⟨(some 4), .mv (.k (.d (.b false))), none, 0⟩]) (
.seq (.region false [
  ⟨(some 5), .mv (.t 0), none, 0⟩,
  ⟨(some 6), .mv (.t 1), none, 0⟩,
  ⟨(some 7), .call 155 [(.t 5), (.t 6)] 4 true, none, 0⟩,
  ⟨(some 8), .bin .geq (.t 7) (.k (.d (.i .i64 0))), none, 0⟩,
  ⟨(some 4), .mv (.t 8), none, 0⟩]) (
.ret)), [.slot 4]⟩
def n141 : Notes := ⟨[], []⟩

/-- lemmata/val.may$1 -/
def c142 : CFn := ⟨.seq (.region false [
  ⟨(some 1), .box (.t 0), none, 0⟩,
  ⟨(some 2), .mv (.k (.d (.b false))), none, 0⟩]) (
.seq (.region false [
  ⟨(some 3), .fa 0 (.t 1), none, 0⟩,
  ⟨(some 4), .ld false 1 (.t 3), none, 0⟩,
  ⟨(some 5), .bin .eql (.t 4) (.k (.d (.i .i64 7))), none, 0⟩,
  ⟨(some 6), .mv (.t 5), none, 0⟩,
  ⟨(some 7), .ld true 4 (.t 1), (some (6, false)), 0⟩,
  ⟨(some 8), .call 125 [(.t 7)] 0 true, (some (6, false)), 0⟩,
  ⟨(some 9), .un .not (.t 8), (some (6, false)), 0⟩,
  ⟨(some 10), .pick (.t 6) (.k (.d (.b true))) (.t 9), none, 0⟩,
  ⟨(some 2), .mv (.t 10), none, 0⟩]) (
.ret)), [.slot 2]⟩
def n142 : Notes := ⟨[], []⟩

/-- cmp.isNaN(int) -/
def c143 : CFn := ⟨.seq (.region false [
  ⟨(some 2), .mv (.k (.d (.b false))), none, 0⟩]) (
.seq (.region false [
  ⟨(some 3), .mv (.t 0), none, 0⟩,
  ⟨(some 4), .mv (.t 0), none, 0⟩,
  ⟨(some 5), .bin .neq (.t 3) (.t 4), none, 0⟩,
  ⟨(some 2), .mv (.t 5), none, 0⟩]) (
.ret)), [.slot 2]⟩
def n143 : Notes := ⟨[], []⟩

/-- cmp.isNaN(int64) -/
def c144 : CFn := ⟨.seq (.region false [
  ⟨(some 2), .mv (.k (.d (.b false))), none, 0⟩]) (
.seq (.region false [
  ⟨(some 3), .mv (.t 0), none, 0⟩,
  ⟨(some 4), .mv (.t 0), none, 0⟩,
  ⟨(some 5), .bin .neq (.t 3) (.t 4), none, 0⟩,
  ⟨(some 2), .mv (.t 5), none, 0⟩]) (
.ret)), [.slot 2]⟩
def n144 : Notes := ⟨[], []⟩

/-- cmp.isNaN(string) -/
def c145 : CFn := ⟨.seq (.region false [
  ⟨(some 2), .mv (.k (.d (.b false))), none, 0⟩]) (
.seq (.region false [
  ⟨(some 3), .mv (.t 0), none, 0⟩,
  ⟨(some 4), .mv (.t 0), none, 0⟩,
  ⟨(some 5), .bin .neq (.t 3) (.t 4), none, 0⟩,
  ⟨(some 2), .mv (.t 5), none, 0⟩]) (
.ret)), [.slot 2]⟩
def n145 : Notes := ⟨[], []⟩

/-- lemmata/val.rises(lemmata/api.Val) -/
def c151 : CFn := ⟨.seq (.region false [
  ⟨(some 4), .mv (.k (.d (.b false))), none, 0⟩]) (
.seq (.seq (.region false [
  ⟨(some 6), .mv (.t 0), none, 0⟩,
  ⟨(some 7), .len 0 (.t 6), none, 0⟩,
  ⟨(some 8), .mv (.k (.d (.i .i64 0))), none, 0⟩]) (
.block 0 (.loop ⟨[0, 1, 7, 8], [], [], [], [], true⟩ (.seq (.region false [
  ⟨(some 9), .bin .lss (.t 8) (.t 7), none, 0⟩]) (
.seq (.cond (.t 9) (
.skip) (.exit 0)) (
.seq (.block 1 (.seq (.region false [
  ⟨(some 10), .mv (.t 8), none, 0⟩,
  ⟨(some 5), .mv (.t 10), none, 0⟩]) (
.seq (.region true [
  ⟨(some 11), .mv (.t 5), none, 0⟩,
  ⟨(some 12), .bin .gtr (.t 11) (.k (.d (.i .i64 0))), none, 1⟩,
  ⟨(some 13), .mv (.t 12), none, 3⟩,
  ⟨(some 14), .mv (.t 1), (some (13, true)), 7⟩,
  ⟨(some 15), .mv (.t 0), (some (13, true)), 7⟩,
  ⟨(some 16), .mv (.t 5), (some (13, true)), 7⟩,
  ⟨(some 17), .bin .sub (.t 16) (.k (.d (.i .i64 1))), (some (13, true)), 39⟩,
  ⟨(some 18), .ia 4 (.t 15) (.t 17), (some (13, true)), 119⟩,
  ⟨(some 19), .ld true 4 (.t 18), (some (13, true)), 247⟩,
  ⟨(some 20), .mv (.t 0), (some (13, true)), 7⟩,
  ⟨(some 21), .mv (.t 5), (some (13, true)), 7⟩,
  ⟨(some 22), .ia 4 (.t 20) (.t 21), (some (13, true)), 1543⟩,
  ⟨(some 23), .ld true 4 (.t 22), (some (13, true)), 3591⟩,
  ⟨(some 24), .callv (.t 14) [(.t 19), (.t 23)] 4 true, (some (13, true)), 8191⟩,
  ⟨(some 25), .bin .geq (.t 24) (.k (.d (.i .i64 0))), (some (13, true)), 16383⟩,
  ⟨(some 26), .pick (.t 13) (.t 25) (.k (.d (.b false))), none, 32767⟩]) (
.cond (.t 26) (
.seq (.region false [
  ⟨(some 4), .mv (.k (.d (.b false))), none, 0⟩]) (
.ret)) (.skip))))) (
.region false [
  ⟨(some 27), .bin .add (.t 8) (.k (.d (.i .i64 1))), none, 0⟩,
  ⟨(some 8), .mv (.t 27), none, 0⟩]))))))) (
.seq (.region false [
  ⟨(some 4), .mv (.k (.d (.b true))), none, 0⟩]) (
.ret))), [.slot 4]⟩
def n151 : Notes := ⟨[⟨[0, 1, 7, 8], [], [], [], [], true⟩], []⟩

/-- lemmata/val.row$1 -/
def c152 : CFn := ⟨.seq (.region false [
  ⟨(some 1), .box (.t 0), none, 0⟩,
  ⟨(some 2), .mv (.k (.d (.b false))), none, 0⟩]) (
.seq (.region false [
  ⟨(some 3), .ld true 4 (.t 1), none, 0⟩,
  ⟨(some 4), .call 153 [(.t 3)] 0 true, none, 0⟩,
  ⟨(some 5), .un .not (.t 4), none, 0⟩,
  ⟨(some 2), .mv (.t 5), none, 0⟩]) (
.ret)), [.slot 2]⟩
def n152 : Notes := ⟨[], []⟩

/-- lemmata/val.pair -/
def c153 : CFn := ⟨.seq (.region false [
  ⟨(some 1), .box (.t 0), none, 0⟩,
  ⟨(some 2), .mv (.k (.d (.b false))), none, 0⟩]) (
.seq (.region false [
  ⟨(some 3), .fa 0 (.t 1), none, 0⟩,
  ⟨(some 4), .ld false 1 (.t 3), none, 0⟩,
  ⟨(some 5), .bin .eql (.t 4) (.k (.d (.i .i64 4))), none, 0⟩,
  ⟨(some 6), .mv (.t 5), none, 0⟩,
  ⟨(some 7), .fa 3 (.t 1), (some (6, true)), 0⟩,
  ⟨(some 8), .ld false 1 (.t 7), (some (6, true)), 0⟩,
  ⟨(some 9), .len 0 (.t 8), (some (6, true)), 0⟩,
  ⟨(some 10), .bin .eql (.t 9) (.k (.d (.i .i64 2))), (some (6, true)), 0⟩,
  ⟨(some 11), .pick (.t 6) (.t 10) (.k (.d (.b false))), none, 0⟩,
  ⟨(some 12), .mv (.t 11), none, 0⟩,
  ⟨(some 13), .fa 3 (.t 1), (some (12, true)), 0⟩,
  ⟨(some 14), .ld false 1 (.t 13), (some (12, true)), 0⟩,
  ⟨(some 15), .ia 4 (.t 14) (.k (.d (.i .i64 0))), (some (12, true)), 0⟩,
  ⟨(some 16), .fa 0 (.t 15), (some (12, true)), 0⟩,
  ⟨(some 17), .ld false 1 (.t 16), (some (12, true)), 0⟩,
  ⟨(some 18), .bin .eql (.t 17) (.k (.d (.i .i64 3))), (some (12, true)), 0⟩,
  ⟨(some 19), .pick (.t 12) (.t 18) (.k (.d (.b false))), none, 0⟩,
  ⟨(some 2), .mv (.t 19), none, 0⟩]) (
.ret)), [.slot 2]⟩
def n153 : Notes := ⟨[], []⟩

/-- lemmata/val.row$2 -/
def c154 : CFn := ⟨.seq (.region false [
  ⟨(some 2), .box (.t 0), none, 0⟩,
  ⟨(some 3), .box (.t 1), none, 0⟩,
  ⟨(some 4), .mv (.k (.d (.i .i64 0))), none, 0⟩]) (
.seq (.region true [
  ⟨(some 5), .ld true 4 (.t 2), none, 0⟩,
  ⟨(some 6), .call 137 [(.t 5)] 0 true, none, 1⟩,
  ⟨(some 7), .ld true 4 (.t 3), none, 0⟩,
  ⟨(some 8), .call 137 [(.t 7)] 0 true, none, 7⟩,
  ⟨(some 9), .call 129 [(.t 6), (.t 8)] 0 true, none, 15⟩,
  ⟨(some 4), .mv (.t 9), none, 31⟩]) (
.ret)), [.slot 4]⟩
def n154 : Notes := ⟨[], []⟩

/-- slices.IndexFunc(()lemmata/api.Val,lemmata/api.Val) -/
def c155 : CFn := ⟨.seq (.region false [
  ⟨(some 4), .mv (.k (.d (.i .i64 0))), none, 0⟩]) (
.seq (.seq (.region false [
  ⟨(some 6), .mv (.t 0), none, 0⟩,
  ⟨(some 7), .len 0 (.t 6), none, 0⟩,
  ⟨(some 8), .mv (.k (.d (.i .i64 0))), none, 0⟩]) (
.block 0 (.loop ⟨[0, 1, 7, 8], [], [], [], [], true⟩ (.seq (.region false [
  ⟨(some 9), .bin .lss (.t 8) (.t 7), none, 0⟩]) (
.seq (.cond (.t 9) (
.skip) (.exit 0)) (
.seq (.block 1 (.seq (.region false [
  ⟨(some 10), .mv (.t 8), none, 0⟩,
  ⟨(some 5), .mv (.t 10), none, 0⟩]) (
.seq (.region false [
  ⟨(some 11), .mv (.t 1), none, 0⟩,
  ⟨(some 12), .mv (.t 0), none, 0⟩,
  ⟨(some 13), .mv (.t 5), none, 0⟩,
  ⟨(some 14), .ia 4 (.t 12) (.t 13), none, 0⟩,
  ⟨(some 15), .ld true 4 (.t 14), none, 0⟩,
  ⟨(some 16), .callv (.t 11) [(.t 15)] 4 true, none, 0⟩]) (
.cond (.t 16) (
.seq (.region false [
  ⟨(some 17), .mv (.t 5), none, 0⟩,
  ⟨(some 4), .mv (.t 17), none, 0⟩]) (
.ret)) (.skip))))) (
.region false [
  ⟨(some 18), .bin .add (.t 8) (.k (.d (.i .i64 1))), none, 0⟩,
  ⟨(some 8), .mv (.t 18), none, 0⟩]))))))) (
.seq (.region false [
  ⟨(some 4), .mv (.k (.d (.i .i64 (-1)))), none, 0⟩]) (
.ret))), [.slot 4]⟩
def n155 : Notes := ⟨[⟨[0, 1, 7, 8], [], [], [], [], true⟩], []⟩

/-- lemmata/lemmatalaw18.LocalForms -/
def c162 : CFn := ⟨.seq (.region false [
  ⟨(some 0), .mv (.k (.d (.b false))), none, 0⟩]) (
.seq (.seq (.region false [
  ⟨(some 9), .call 171 [] 0 true, none, 0⟩,
  ⟨(some 10), .un .not (.t 9), none, 0⟩]) (
.cond (.t 10) (
.seq (.region false [
  ⟨(some 0), .mv (.k (.d (.b false))), none, 0⟩]) (
.ret)) (.skip))) (
.seq (.region false [
  ⟨(some 11), .call 170 [(.k (.d (.i .i64 1)))] 64 false, none, 0⟩,
  ⟨(some 1), .zero (.agg [(.nil 3), (.nil 3), (.nil 3)]), none, 0⟩,
  ⟨none, .st 3 (.t 1) (.t 11), none, 0⟩]) (
.seq (.region true [
  ⟨(some 12), .ld true 3 (.t 1), none, 0⟩,
  ⟨(some 13), .call 172 [(.t 12), (.k (.d (.i .i64 0)))] 0 true, none, 1⟩,
  ⟨(some 14), .ld true 3 (.t 1), none, 0⟩,
  ⟨(some 15), .call 172 [(.t 14), (.k (.d (.i .i64 2)))] 0 true, none, 7⟩,
  ⟨(some 16), .ld true 3 (.t 1), none, 0⟩,
  ⟨(some 17), .call 172 [(.t 16), (.k (.d (.i .i64 7)))] 0 true, none, 31⟩,
  ⟨(some 2), .mv (.t 13), none, 63⟩,
  ⟨(some 3), .mv (.t 15), none, 127⟩,
  ⟨(some 4), .mv (.t 17), none, 255⟩]) (
.seq (.region false [
  ⟨(some 18), .build [(.d (.i .i64 0)), (.d (.i .i64 0))] [(0, 1, (.k (.d (.i .i64 1)))), (1, 1, (.k (.d (.i .i64 1))))], none, 0⟩,
  ⟨(some 19), .build [(.d (.i .i64 0)), (.d (.i .i64 0))] [(0, 1, (.k (.d (.i .i64 0)))), (1, 1, (.k (.d (.i .i64 0))))], none, 0⟩,
  ⟨(some 20), .build [(.d (.i .i64 0)), (.d (.i .i64 0)), (.d (.i .i64 0)), (.d (.i .i64 0))] [(0, 2, (.t 18)), (2, 2, (.t 19))], none, 0⟩,
  ⟨(some 21), .build [(.d (.i .i64 0)), (.d (.i .i64 0))] [(0, 1, (.k (.d (.i .i64 1)))), (1, 1, (.k (.d (.i .i64 1))))], none, 0⟩,
  ⟨(some 22), .build [(.d (.i .i64 0)), (.d (.i .i64 0))] [(0, 1, (.k (.d (.i .i64 0)))), (1, 1, (.k (.d (.i .i64 1))))], none, 0⟩,
  ⟨(some 23), .build [(.d (.i .i64 0)), (.d (.i .i64 0)), (.d (.i .i64 0)), (.d (.i .i64 0))] [(0, 2, (.t 21)), (2, 2, (.t 22))], none, 0⟩,
  ⟨(some 24), .bsa 4 2 [(.i .i64 0), (.i .i64 0), (.i .i64 0), (.i .i64 0)] [(0, (.t 20)), (1, (.t 23))], none, 0⟩,
  ⟨(some 5), .mv (.t 24), none, 0⟩]) (
.seq (.region false [
  ⟨(some 25), .build [(.d (.i .i64 0)), (.d (.i .i64 0))] [(0, 1, (.k (.d (.i .i64 0)))), (1, 1, (.k (.d (.i .i64 0))))], none, 0⟩,
  ⟨(some 26), .build [(.d (.i .i64 0)), (.d (.i .i64 0))] [(0, 1, (.k (.d (.i .i64 2)))), (1, 1, (.k (.d (.i .i64 0))))], none, 0⟩,
  ⟨(some 27), .build [(.d (.i .i64 0)), (.d (.i .i64 0)), (.d (.i .i64 0)), (.d (.i .i64 0))] [(0, 2, (.t 25)), (2, 2, (.t 26))], none, 0⟩,
  ⟨(some 28), .build [(.d (.i .i64 0)), (.d (.i .i64 0))] [(0, 1, (.k (.d (.i .i64 0)))), (1, 1, (.k (.d (.i .i64 0))))], none, 0⟩,
  ⟨(some 29), .build [(.d (.i .i64 0)), (.d (.i .i64 0))] [(0, 1, (.k (.d (.i .i64 3)))), (1, 1, (.k (.d (.i .i64 0))))], none, 0⟩,
  ⟨(some 30), .build [(.d (.i .i64 0)), (.d (.i .i64 0)), (.d (.i .i64 0)), (.d (.i .i64 0))] [(0, 2, (.t 28)), (2, 2, (.t 29))], none, 0⟩,
  ⟨(some 31), .build [(.d (.i .i64 0)), (.d (.i .i64 0))] [(0, 1, (.k (.d (.i .i64 0)))), (1, 1, (.k (.d (.i .i64 1))))], none, 0⟩,
  ⟨(some 32), .build [(.d (.i .i64 0)), (.d (.i .i64 0))] [(0, 1, (.k (.d (.i .i64 3)))), (1, 1, (.k (.d (.i .i64 1))))], none, 0⟩,
  ⟨(some 33), .build [(.d (.i .i64 0)), (.d (.i .i64 0)), (.d (.i .i64 0)), (.d (.i .i64 0))] [(0, 2, (.t 31)), (2, 2, (.t 32))], none, 0⟩,
  ⟨(some 34), .build [(.d (.i .i64 0)), (.d (.i .i64 0))] [(0, 1, (.k (.d (.i .i64 2)))), (1, 1, (.k (.d (.i .i64 1))))], none, 0⟩,
  ⟨(some 35), .build [(.d (.i .i64 0)), (.d (.i .i64 0))] [(0, 1, (.k (.d (.i .i64 3)))), (1, 1, (.k (.d (.i .i64 1))))], none, 0⟩,
  ⟨(some 36), .build [(.d (.i .i64 0)), (.d (.i .i64 0)), (.d (.i .i64 0)), (.d (.i .i64 0))] [(0, 2, (.t 34)), (2, 2, (.t 35))], none, 0⟩,
  ⟨(some 37), .build [(.d (.i .i64 0)), (.d (.i .i64 0))] [(0, 1, (.k (.d (.i .i64 3)))), (1, 1, (.k (.d (.i .i64 2))))], none, 0⟩,
  ⟨(some 38), .build [(.d (.i .i64 0)), (.d (.i .i64 0))] [(0, 1, (.k (.d (.i .i64 0)))), (1, 1, (.k (.d (.i .i64 2))))], none, 0⟩,
  ⟨(some 39), .build [(.d (.i .i64 0)), (.d (.i .i64 0)), (.d (.i .i64 0)), (.d (.i .i64 0))] [(0, 2, (.t 37)), (2, 2, (.t 38))], none, 0⟩,
  ⟨(some 40), .bsa 4 5 [(.i .i64 0), (.i .i64 0), (.i .i64 0), (.i .i64 0)] [(0, (.t 27)), (1, (.t 30)), (2, (.t 33)), (3, (.t 36)), (4, (.t 39))], none, 0⟩,
  ⟨(some 6), .mv (.t 40), none, 0⟩]) (
.seq (.region false [
  ⟨(some 41), .build [(.d (.i .i64 0)), (.d (.i .i64 0))] [(0, 1, (.k (.d (.i .i64 0)))), (1, 1, (.k (.d (.i .i64 0))))], none, 0⟩,
  ⟨(some 42), .build [(.d (.i .i64 0)), (.d (.i .i64 0))] [(0, 1, (.k (.d (.i .i64 3)))), (1, 1, (.k (.d (.i .i64 0))))], none, 0⟩,
  ⟨(some 43), .build [(.d (.i .i64 0)), (.d (.i .i64 0)), (.d (.i .i64 0)), (.d (.i .i64 0))] [(0, 2, (.t 41)), (2, 2, (.t 42))], none, 0⟩,
  ⟨(some 44), .build [(.d (.i .i64 0)), (.d (.i .i64 0))] [(0, 1, (.k (.d (.i .i64 0)))), (1, 1, (.k (.d (.i .i64 0))))], none, 0⟩,
  ⟨(some 45), .build [(.d (.i .i64 0)), (.d (.i .i64 0))] [(0, 1, (.k (.d (.i .i64 4)))), (1, 1, (.k (.d (.i .i64 0))))], none, 0⟩,
  ⟨(some 46), .build [(.d (.i .i64 0)), (.d (.i .i64 0)), (.d (.i .i64 0)), (.d (.i .i64 0))] [(0, 2, (.t 44)), (2, 2, (.t 45))], none, 0⟩,
  ⟨(some 47), .build [(.d (.i .i64 0)), (.d (.i .i64 0))] [(0, 1, (.k (.d (.i .i64 3)))), (1, 1, (.k (.d (.i .i64 1))))], none, 0⟩,
  ⟨(some 48), .build [(.d (.i .i64 0)), (.d (.i .i64 0))] [(0, 1, (.k (.d (.i .i64 4)))), (1, 1, (.k (.d (.i .i64 0))))], none, 0⟩,
  ⟨(some 49), .build [(.d (.i .i64 0)), (.d (.i .i64 0)), (.d (.i .i64 0)), (.d (.i .i64 0))] [(0, 2, (.t 47)), (2, 2, (.t 48))], none, 0⟩,
  ⟨(some 50), .build [(.d (.i .i64 0)), (.d (.i .i64 0))] [(0, 1, (.k (.d (.i .i64 4)))), (1, 1, (.k (.d (.i .i64 1))))], none, 0⟩,
  ⟨(some 51), .build [(.d (.i .i64 0)), (.d (.i .i64 0))] [(0, 1, (.k (.d (.i .i64 0)))), (1, 1, (.k (.d (.i .i64 1))))], none, 0⟩,
  ⟨(some 52), .build [(.d (.i .i64 0)), (.d (.i .i64 0)), (.d (.i .i64 0)), (.d (.i .i64 0))] [(0, 2, (.t 50)), (2, 2, (.t 51))], none, 0⟩,
  ⟨(some 53), .build [(.d (.i .i64 0)), (.d (.i .i64 0))] [(0, 1, (.k (.d (.i .i64 3)))), (1, 1, (.k (.d (.i .i64 2))))], none, 0⟩,
  ⟨(some 54), .build [(.d (.i .i64 0)), (.d (.i .i64 0))] [(0, 1, (.k (.d (.i .i64 0)))), (1, 1, (.k (.d (.i .i64 2))))], none, 0⟩,
  ⟨(some 55), .build [(.d (.i .i64 0)), (.d (.i .i64 0)), (.d (.i .i64 0)), (.d (.i .i64 0))] [(0, 2, (.t 53)), (2, 2, (.t 54))], none, 0⟩,
  ⟨(some 56), .build [(.d (.i .i64 0)), (.d (.i .i64 0))] [(0, 1, (.k (.d (.i .i64 4)))), (1, 1, (.k (.d (.i .i64 2))))], none, 0⟩,
  ⟨(some 57), .build [(.d (.i .i64 0)), (.d (.i .i64 0))] [(0, 1, (.k (.d (.i .i64 0)))), (1, 1, (.k (.d (.i .i64 2))))], none, 0⟩,
  ⟨(some 58), .build [(.d (.i .i64 0)), (.d (.i .i64 0)), (.d (.i .i64 0)), (.d (.i .i64 0))] [(0, 2, (.t 56)), (2, 2, (.t 57))], none, 0⟩,
  ⟨(some 59), .bsa 4 6 [(.i .i64 0), (.i .i64 0), (.i .i64 0), (.i .i64 0)] [(0, (.t 43)), (1, (.t 46)), (2, (.t 49)), (3, (.t 52)), (4, (.t 55)), (5, (.t 58))], none, 0⟩,
  ⟨(some 7), .mv (.t 59), none, 0⟩]) (
.seq (.region true [
  ⟨(some 60), .fa 2 (.t 1), none, 0⟩,
  ⟨(some 61), .ld false 1 (.t 60), none, 1⟩,
  ⟨(some 62), .ia 3 (.t 61) (.k (.d (.i .i64 3))), none, 3⟩,
  ⟨(some 63), .fa 2 (.t 62), none, 7⟩,
  ⟨(some 64), .ld false 1 (.t 63), none, 15⟩,
  ⟨(some 65), .fa 2 (.t 1), none, 0⟩,
  ⟨(some 66), .ld false 1 (.t 65), none, 32⟩,
  ⟨(some 67), .ia 3 (.t 66) (.k (.d (.i .i64 3))), none, 96⟩,
  ⟨(some 68), .fa 2 (.t 67), none, 224⟩,
  ⟨(some 69), .ld false 1 (.t 68), none, 480⟩,
  ⟨(some 70), .ia 10 (.t 69) (.k (.d (.i .i64 0))), none, 992⟩,
  ⟨(some 71), .fa 2 (.t 70), none, 2016⟩,
  ⟨(some 72), .ld true 8 (.t 71), none, 4064⟩,
  ⟨(some 73), .fa 2 (.t 1), none, 0⟩,
  ⟨(some 74), .ld false 1 (.t 73), none, 8192⟩,
  ⟨(some 75), .ia 3 (.t 74) (.k (.d (.i .i64 3))), none, 24576⟩,
  ⟨(some 76), .fa 2 (.t 75), none, 57344⟩,
  ⟨(some 77), .ld false 1 (.t 76), none, 122880⟩,
  ⟨(some 78), .ia 10 (.t 77) (.k (.d (.i .i64 0))), none, 253952⟩,
  ⟨(some 79), .fa 2 (.t 78), none, 516096⟩,
  ⟨(some 80), .ld true 8 (.t 79), none, 1040384⟩,
  ⟨(some 81), .bsa 8 2 [(.i .i64 0), (.i .i64 0), (.i .i64 0), (.s []), (.l 4 []), (.i .i64 0), (.i .i64 0), (.l 8 [])] [(0, (.t 72)), (1, (.t 80))], none, 2097120⟩,
  ⟨(some 82), .build [(.d (.i .i64 0)), (.d (.i .i64 0)), (.d (.i .i64 0)), (.d (.s [])), (.nil 4), (.d (.i .i64 0)), (.d (.i .i64 0)), (.nil 8)] [(0, 1, (.k (.d (.i .i64 4)))), (7, 1, (.t 81))], none, 4194272⟩,
  ⟨(some 83), .ia 10 (.t 64) (.k (.d (.i .i64 0))), none, 8388607⟩,
  ⟨(some 84), .fa 2 (.t 83), none, 16777215⟩,
  ⟨none, .st 8 (.t 84) (.t 82), none, 33554431⟩]) (
.seq (.region false [
  ⟨(some 85), .ld true 3 (.t 1), none, 0⟩,
  ⟨(some 86), .call 172 [(.t 85), (.k (.d (.i .i64 3)))] 0 true, none, 0⟩,
  ⟨(some 8), .mv (.t 86), none, 0⟩]) (
.seq (.region false [
  ⟨(some 87), .mv (.t 2), none, 0⟩,
  ⟨(some 88), .mv (.t 5), none, 0⟩,
  ⟨(some 89), .call 176 [(.t 87), (.t 88)] 0 true, none, 0⟩,
  ⟨(some 90), .mv (.t 89), none, 0⟩,
  ⟨(some 91), .mv (.t 3), (some (90, true)), 0⟩,
  ⟨(some 92), .mv (.t 6), (some (90, true)), 0⟩,
  ⟨(some 93), .call 176 [(.t 91), (.t 92)] 0 true, (some (90, true)), 0⟩,
  ⟨(some 94), .pick (.t 90) (.t 93) (.k (.d (.b false))), none, 0⟩,
  ⟨(some 95), .mv (.t 94), none, 0⟩,
  ⟨(some 96), .mv (.t 4), (some (95, true)), 0⟩,
  ⟨(some 97), .mv (.t 7), (some (95, true)), 0⟩,
  ⟨(some 98), .call 176 [(.t 96), (.t 97)] 0 true, (some (95, true)), 0⟩,
  ⟨(some 99), .pick (.t 95) (.t 98) (.k (.d (.b false))), none, 0⟩,
  ⟨(some 100), .mv (.t 99), none, 0⟩,
  ⟨(some 101), .mv (.t 8), (some (100, true)), 0⟩,
  ⟨(some 102), .len 0 (.t 101), (some (100, true)), 0⟩,
  ⟨(some 103), .bin .eql (.t 102) (.k (.d (.i .i64 1))), (some (100, true)), 0⟩,
  ⟨(some 104), .pick (.t 100) (.t 103) (.k (.d (.b false))), none, 0⟩,
  ⟨(some 105), .mv (.t 104), none, 0⟩,
  ⟨(some 106), .ld true 3 (.t 1), (some (105, true)), 0⟩,
  ⟨(some 107), .call 172 [(.t 106), (.k (.d (.i .i64 4)))] 0 true, (some (105, true)), 0⟩,
  ⟨(some 108), .len 0 (.t 107), (some (105, true)), 0⟩,
  ⟨(some 109), .bin .eql (.t 108) (.k (.d (.i .i64 0))), (some (105, true)), 0⟩,
  ⟨(some 110), .pick (.t 105) (.t 109) (.k (.d (.b false))), none, 0⟩,
  ⟨(some 111), .mv (.t 110), none, 0⟩,
  ⟨(some 112), .ld true 3 (.t 1), (some (111, true)), 0⟩,
  ⟨(some 113), .call 172 [(.t 112), (.k (.d (.i .i64 (-1))))] 0 true, (some (111, true)), 0⟩,
  ⟨(some 114), .len 0 (.t 113), (some (111, true)), 0⟩,
  ⟨(some 115), .bin .eql (.t 114) (.k (.d (.i .i64 0))), (some (111, true)), 0⟩,
  ⟨(some 116), .pick (.t 111) (.t 115) (.k (.d (.b false))), none, 0⟩,
  ⟨(some 0), .mv (.t 116), none, 0⟩]) (
.ret)))))))))), [.slot 0]⟩
def n162 : Notes := ⟨[], [0, 0, 0, 0, 64, 0, 0, 0, 0, 0, 0, 0, 0, 0, 0, 0, 0, 0, 0, 0, 0, 0, 1, 0, 0, 0, 0, 0, 0, 0, 0, 0, 0, 0, 0, 0, 0, 0, 0, 1, 0, 0, 0, 0, 0, 0, 0, 0, 0, 0, 0, 0, 0, 0, 0, 0, 0, 0, 0, 1, 0, 0, 0, 0, 0, 0, 0, 0, 0, 0, 0, 0, 0, 0, 0, 0, 0, 0, 0, 0, 0, 0, 1]⟩

/-- lemmata/attr.May -/
def c169 : CFn := ⟨.seq (.region false [
  ⟨(some 1), .box (.t 0), none, 0⟩,
  ⟨(some 2), .mv (.k (.d (.b false))), none, 0⟩]) (
.seq (.region false [
  ⟨(some 3), .ld true 3 (.t 1), none, 0⟩,
  ⟨(some 4), .call 184 [(.t 3)] 0 true, none, 0⟩,
  ⟨(some 5), .mv (.t 4), none, 0⟩,
  ⟨(some 6), .fa 1 (.t 1), (some (5, true)), 0⟩,
  ⟨(some 7), .ld false 1 (.t 6), (some (5, true)), 0⟩,
  ⟨(some 8), .ia 3 (.t 7) (.k (.d (.i .i64 0))), (some (5, true)), 0⟩,
  ⟨(some 9), .fa 1 (.t 8), (some (5, true)), 0⟩,
  ⟨(some 10), .ld false 1 (.t 9), (some (5, true)), 0⟩,
  ⟨(some 11), .len 0 (.t 10), (some (5, true)), 0⟩,
  ⟨(some 12), .bin .eql (.t 11) (.k (.d (.i .i64 0))), (some (5, true)), 0⟩,
  ⟨(some 13), .pick (.t 5) (.t 12) (.k (.d (.b false))), none, 0⟩,
  ⟨(some 14), .mv (.t 13), none, 0⟩,
  ⟨(some 15), .fa 2 (.t 1), (some (14, true)), 0⟩,
  ⟨(some 16), .ld false 1 (.t 15), (some (14, true)), 0⟩,
  ⟨(some 17), .mkf 186 [] [(.t 1)] true, (some (14, true)), 0⟩,
  ⟨(some 18), .call 185 [(.t 16), (.t 17)] 4 true, (some (14, true)), 0⟩,
  ⟨(some 19), .pick (.t 14) (.t 18) (.k (.d (.b false))), none, 0⟩,
  ⟨(some 2), .mv (.t 19), none, 0⟩]) (
.ret)), [.slot 2]⟩
def n169 : Notes := ⟨[], [0, 0, 0, 0, 0, 0, 0, 0, 0, 0, 0, 0, 0, 0, 0, 0, 1]⟩

/-- lemmata/lemmataplay.Sums -/
def c170 : CFn := ⟨.seq (.region false [
  ⟨(some 2), .zero (.agg [(.nil 3), (.nil 3), (.nil 3)]), none, 0⟩]) (
.seq (.region false [
  ⟨(some 4), .build [(.d (.s [])), (.d (.s [])), (.d (.b false))] [(0, 1, (.k (.d (.s [110, 117, 109])))), (1, 1, (.k (.d (.s [91, 48, 45, 57, 93, 43]))))], none, 0⟩,
  ⟨(some 5), .build [(.d (.s [])), (.d (.s [])), (.d (.b false))] [(0, 1, (.k (.d (.s [105, 100])))), (1, 1, (.k (.d (.s [91, 97, 45, 122, 93, 43]))))], none, 0⟩,
  ⟨(some 6), .build [(.d (.s [])), (.d (.s [])), (.d (.b false))] [(0, 1, (.k (.d (.s [112, 108, 117, 115])))), (1, 1, (.k (.d (.s [92, 43]))))], none, 0⟩,
  ⟨(some 7), .build [(.d (.s [])), (.d (.s [])), (.d (.b false))] [(0, 1, (.k (.d (.s [115, 116, 97, 114])))), (1, 1, (.k (.d (.s [92, 42]))))], none, 0⟩,
  ⟨(some 8), .build [(.d (.s [])), (.d (.s [])), (.d (.b false))] [(0, 1, (.k (.d (.s [111, 112, 101, 110])))), (1, 1, (.k (.d (.s [92, 40]))))], none, 0⟩,
  ⟨(some 9), .build [(.d (.s [])), (.d (.s [])), (.d (.b false))] [(0, 1, (.k (.d (.s [99, 108, 111, 115, 101])))), (1, 1, (.k (.d (.s [92, 41]))))], none, 0⟩,
  ⟨(some 10), .build [(.d (.s [])), (.d (.s [])), (.d (.b false))] [(0, 1, (.k (.d (.s [98, 108, 97, 110, 107])))), (1, 1, (.k (.d (.s [91, 32, 92, 45, 93, 43])))), (2, 1, (.k (.d (.b true))))], none, 0⟩,
  ⟨(some 11), .build [(.d (.s [])), (.d (.s [])), (.d (.b false))] [(0, 1, (.k (.d (.s [108, 101, 116])))), (1, 1, (.k (.d (.s [61]))))], none, 0⟩,
  ⟨(some 12), .bsa 3 8 [(.s []), (.s []), (.b false)] [(0, (.t 4)), (1, (.t 5)), (2, (.t 6)), (3, (.t 7)), (4, (.t 8)), (5, (.t 9)), (6, (.t 10)), (7, (.t 11))], none, 0⟩,
  ⟨(some 13), .build [(.nil 3), (.nil 3), (.nil 3)] [(0, 1, (.t 12))], none, 0⟩,
  ⟨(some 3), .zero (.agg [(.nil 3), (.nil 3), (.nil 3)]), none, 0⟩,
  ⟨none, .st 3 (.t 3) (.t 13), none, 0⟩]) (
.seq (.region false [
  ⟨(some 14), .fa 0 (.t 3), none, 0⟩,
  ⟨(some 15), .ld false 1 (.t 14), none, 0⟩,
  ⟨(some 16), .ia 3 (.t 15) (.k (.d (.i .i64 6))), none, 0⟩,
  ⟨(some 17), .fa 1 (.t 16), none, 0⟩,
  ⟨none, .st 1 (.t 17) (.k (.d (.s [32, 43]))), none, 0⟩]) (
.seq (.region false [
  ⟨(some 18), .bsa 1 2 [(.s [])] [(0, (.k (.d (.s [118, 97, 108])))), (1, (.k (.d (.s [98, 97, 100]))))], none, 0⟩,
  ⟨(some 19), .build [(.d (.s [])), (.nil 1), (.nil 1)] [(0, 1, (.k (.d (.s [115])))), (2, 1, (.t 18))], none, 0⟩,
  ⟨(some 20), .bsa 1 1 [(.s [])] [(0, (.k (.d (.s [101, 110, 118]))))], none, 0⟩,
  ⟨(some 21), .bsa 1 1 [(.s [])] [(0, (.k (.d (.s [118, 97, 108]))))], none, 0⟩,
  ⟨(some 22), .build [(.d (.s [])), (.nil 1), (.nil 1)] [(0, 1, (.k (.d (.s [101])))), (1, 1, (.t 20)), (2, 1, (.t 21))], none, 0⟩,
  ⟨(some 23), .bsa 1 2 [(.s [])] [(0, (.k (.d (.s [101, 110, 118])))), (1, (.k (.d (.s [108, 101, 102, 116]))))], none, 0⟩,
  ⟨(some 24), .bsa 1 1 [(.s [])] [(0, (.k (.d (.s [118, 97, 108]))))], none, 0⟩,
  ⟨(some 25), .build [(.d (.s [])), (.nil 1), (.nil 1)] [(0, 1, (.k (.d (.s [109, 111, 114, 101])))), (1, 1, (.t 23)), (2, 1, (.t 24))], none, 0⟩,
  ⟨(some 26), .bsa 1 1 [(.s [])] [(0, (.k (.d (.s [101, 110, 118]))))], none, 0⟩,
  ⟨(some 27), .bsa 1 2 [(.s [])] [(0, (.k (.d (.s [118, 97, 108])))), (1, (.k (.d (.s [115, 105, 122, 101]))))], none, 0⟩,
  ⟨(some 28), .build [(.d (.s [])), (.nil 1), (.nil 1)] [(0, 1, (.k (.d (.s [102])))), (1, 1, (.t 26)), (2, 1, (.t 27))], none, 0⟩,
  ⟨(some 29), .bsa 3 4 [(.s []), (.l 1 []), (.l 1 [])] [(0, (.t 19)), (1, (.t 22)), (2, (.t 25)), (3, (.t 28))], none, 0⟩,
  ⟨(some 30), .fa 1 (.t 3), none, 0⟩,
  ⟨none, .st 1 (.t 30) (.t 29), none, 0⟩]) (
.seq (.region false [
  ⟨(some 31), .build [(.d (.b false)), (.d (.i .i64 0))] [(1, 1, (.k (.d (.i .i64 1))))], none, 0⟩,
  ⟨(some 32), .bsa 2 1 [(.b false), (.i .i64 0)] [(0, (.t 31))], none, 0⟩,
  ⟨(some 33), .build [(.d (.i .i64 0)), (.d (.i .i64 0)), (.d (.i .i64 0)), (.d (.s [])), (.nil 4), (.d (.i .i64 0)), (.d (.i .i64 0)), (.nil 8)] [(0, 1, (.k (.d (.i .i64 22))))], none, 0⟩,
  ⟨(some 34), .build [(.d (.i .i64 0)), (.d (.i .i64 0)), (.d (.s [])), (.nil 4)] [(0, 1, (.k (.d (.i .i64 3)))), (2, 1, (.k (.d (.s [120]))))], none, 0⟩,
  ⟨(some 35), .call 188 [(.t 34)] 0 true, none, 0⟩,
  ⟨(some 36), .build [(.d (.i .i64 0)), (.d (.i .i64 0)), (.d (.s [])), (.nil 4)] [(0, 1, (.k (.d (.i .i64 1)))), (1, 1, (.k (.d (.i .i64 5))))], none, 0⟩,
  ⟨(some 37), .call 188 [(.t 36)] 0 true, none, 0⟩,
  ⟨(some 38), .bsa 8 3 [(.i .i64 0), (.i .i64 0), (.i .i64 0), (.s []), (.l 4 []), (.i .i64 0), (.i .i64 0), (.l 8 [])] [(0, (.t 33)), (1, (.t 35)), (2, (.t 37))], none, 0⟩,
  ⟨(some 39), .build [(.d (.i .i64 0)), (.d (.i .i64 0)), (.d (.i .i64 0)), (.d (.s [])), (.nil 4), (.d (.i .i64 0)), (.d (.i .i64 0)), (.nil 8)] [(0, 1, (.k (.d (.i .i64 16)))), (7, 1, (.t 38))], none, 0⟩,
  ⟨(some 40), .build [(.d (.i .i64 0)), (.d (.i .i64 0)), (.d (.i .i64 0)), (.d (.i .i64 0)), (.d (.i .i64 0)), (.d (.s [])), (.nil 4), (.d (.i .i64 0)), (.d (.i .i64 0)), (.nil 8)] [(0, 1, (.k (.d (.i .i64 1)))), (1, 1, (.k (.d (.i .i64 0)))), (2, 8, (.t 39))], none, 0⟩,
  ⟨(some 41), .call 189 [(.k (.d (.i .i64 1))), (.k (.d (.i .i64 1)))] 0 true, none, 0⟩,
  ⟨(some 42), .build [(.d (.i .i64 0)), (.d (.i .i64 0)), (.d (.i .i64 0)), (.d (.i .i64 0)), (.d (.i .i64 0)), (.d (.s [])), (.nil 4), (.d (.i .i64 0)), (.d (.i .i64 0)), (.nil 8)] [(0, 1, (.k (.d (.i .i64 0)))), (1, 1, (.k (.d (.i .i64 0)))), (2, 8, (.t 41))], none, 0⟩,
  ⟨(some 43), .call 189 [(.k (.d (.i .i64 1))), (.k (.d (.i .i64 1)))] 0 true, none, 0⟩,
  ⟨(some 44), .build [(.d (.i .i64 0)), (.d (.i .i64 0)), (.d (.s [])), (.nil 4)] [(0, 1, (.k (.d (.i .i64 1)))), (1, 1, (.k (.d (.i .i64 10))))], none, 0⟩,
  ⟨(some 45), .call 188 [(.t 44)] 0 true, none, 0⟩,
  ⟨(some 46), .bsa 8 2 [(.i .i64 0), (.i .i64 0), (.i .i64 0), (.s []), (.l 4 []), (.i .i64 0), (.i .i64 0), (.l 8 [])] [(0, (.t 43)), (1, (.t 45))], none, 0⟩,
  ⟨(some 47), .build [(.d (.i .i64 0)), (.d (.i .i64 0)), (.d (.i .i64 0)), (.d (.s [])), (.nil 4), (.d (.i .i64 0)), (.d (.i .i64 0)), (.nil 8)] [(0, 1, (.k (.d (.i .i64 8)))), (7, 1, (.t 46))], none, 0⟩,
  ⟨(some 48), .build [(.d (.i .i64 0)), (.d (.i .i64 0)), (.d (.i .i64 0)), (.d (.i .i64 0)), (.d (.i .i64 0)), (.d (.s [])), (.nil 4), (.d (.i .i64 0)), (.d (.i .i64 0)), (.nil 8)] [(0, 1, (.k (.d (.i .i64 0)))), (1, 1, (.k (.d (.i .i64 1)))), (2, 8, (.t 47))], none, 0⟩,
  ⟨(some 49), .bsa 10 3 [(.i .i64 0), (.i .i64 0), (.i .i64 0), (.i .i64 0), (.i .i64 0), (.s []), (.l 4 []), (.i .i64 0), (.i .i64 0), (.l 8 [])] [(0, (.t 40)), (1, (.t 42)), (2, (.t 48))], none, 0⟩,
  ⟨(some 50), .build [(.d (.i .i64 0)), (.nil 2), (.nil 10)] [(0, 1, (.k (.d (.i .i64 0)))), (1, 1, (.t 32)), (2, 1, (.t 49))], none, 0⟩,
  ⟨(some 51), .build [(.d (.b false)), (.d (.i .i64 0))] [(1, 1, (.k (.d (.i .i64 3))))], none, 0⟩,
  ⟨(some 52), .build [(.d (.b false)), (.d (.i .i64 0))] [(1, 1, (.k (.d (.i .i64 2))))], none, 0⟩,
  ⟨(some 53), .bsa 2 2 [(.b false), (.i .i64 0)] [(0, (.t 51)), (1, (.t 52))], none, 0⟩,
  ⟨(some 54), .call 189 [(.k (.d (.i .i64 0))), (.k (.d (.i .i64 0)))] 0 true, none, 0⟩,
  ⟨(some 55), .build [(.d (.i .i64 0)), (.d (.i .i64 0)), (.d (.i .i64 0)), (.d (.i .i64 0)), (.d (.i .i64 0)), (.d (.s [])), (.nil 4), (.d (.i .i64 0)), (.d (.i .i64 0)), (.nil 8)] [(0, 1, (.k (.d (.i .i64 1)))), (1, 1, (.k (.d (.i .i64 0)))), (2, 8, (.t 54))], none, 0⟩,
  ⟨(some 56), .call 189 [(.k (.d (.i .i64 0))), (.k (.d (.i .i64 0)))] 0 true, none, 0⟩,
  ⟨(some 57), .build [(.d (.i .i64 0)), (.d (.i .i64 0)), (.d (.i .i64 0)), (.d (.i .i64 0)), (.d (.i .i64 0)), (.d (.s [])), (.nil 4), (.d (.i .i64 0)), (.d (.i .i64 0)), (.nil 8)] [(0, 1, (.k (.d (.i .i64 2)))), (1, 1, (.k (.d (.i .i64 0)))), (2, 8, (.t 56))], none, 0⟩,
  ⟨(some 58), .call 189 [(.k (.d (.i .i64 1))), (.k (.d (.i .i64 1)))] 0 true, none, 0⟩,
  ⟨(some 59), .build [(.d (.i .i64 0)), (.d (.i .i64 0)), (.d (.i .i64 0)), (.d (.i .i64 0)), (.d (.i .i64 0)), (.d (.s [])), (.nil 4), (.d (.i .i64 0)), (.d (.i .i64 0)), (.nil 8)] [(0, 1, (.k (.d (.i .i64 2)))), (1, 1, (.k (.d (.i .i64 1)))), (2, 8, (.t 58))], none, 0⟩,
  ⟨(some 60), .call 189 [(.k (.d (.i .i64 2))), (.k (.d (.i .i64 2)))] 0 true, none, 0⟩,
  ⟨(some 61), .build [(.d (.i .i64 0)), (.d (.i .i64 0)), (.d (.i .i64 0)), (.d (.i .i64 0)), (.d (.i .i64 0)), (.d (.s [])), (.nil 4), (.d (.i .i64 0)), (.d (.i .i64 0)), (.nil 8)] [(0, 1, (.k (.d (.i .i64 0)))), (1, 1, (.k (.d (.i .i64 1)))), (2, 8, (.t 60))], none, 0⟩,
  ⟨(some 62), .bsa 10 4 [(.i .i64 0), (.i .i64 0), (.i .i64 0), (.i .i64 0), (.i .i64 0), (.s []), (.l 4 []), (.i .i64 0), (.i .i64 0), (.l 8 [])] [(0, (.t 55)), (1, (.t 57)), (2, (.t 59)), (3, (.t 61))], none, 0⟩,
  ⟨(some 63), .build [(.d (.i .i64 0)), (.nil 2), (.nil 10)] [(0, 1, (.k (.d (.i .i64 1)))), (1, 1, (.t 53)), (2, 1, (.t 62))], none, 0⟩,
  ⟨(some 64), .call 190 [(.k (.d (.i .i64 2)))] 0 true, none, 0⟩,
  ⟨(some 65), .build [(.d (.b false)), (.d (.i .i64 0))] [(1, 1, (.k (.d (.i .i64 3))))], none, 0⟩,
  ⟨(some 66), .build [(.d (.b false)), (.d (.i .i64 0))] [(1, 1, (.k (.d (.i .i64 2))))], none, 0⟩,
  ⟨(some 67), .bsa 2 3 [(.b false), (.i .i64 0)] [(0, (.t 64)), (1, (.t 65)), (2, (.t 66))], none, 0⟩,
  ⟨(some 68), .call 189 [(.k (.d (.i .i64 0))), (.k (.d (.i .i64 0)))] 0 true, none, 0⟩,
  ⟨(some 69), .build [(.d (.i .i64 0)), (.d (.i .i64 0)), (.d (.i .i64 0)), (.d (.i .i64 0)), (.d (.i .i64 0)), (.d (.s [])), (.nil 4), (.d (.i .i64 0)), (.d (.i .i64 0)), (.nil 8)] [(0, 1, (.k (.d (.i .i64 2)))), (1, 1, (.k (.d (.i .i64 0)))), (2, 8, (.t 68))], none, 0⟩,
  ⟨(some 70), .call 189 [(.k (.d (.i .i64 0))), (.k (.d (.i .i64 0)))] 0 true, none, 0⟩,
  ⟨(some 71), .build [(.d (.i .i64 0)), (.d (.i .i64 0)), (.d (.i .i64 0)), (.d (.i .i64 0)), (.d (.i .i64 0)), (.d (.s [])), (.nil 4), (.d (.i .i64 0)), (.d (.i .i64 0)), (.nil 8)] [(0, 1, (.k (.d (.i .i64 3)))), (1, 1, (.k (.d (.i .i64 0)))), (2, 8, (.t 70))], none, 0⟩,
  ⟨(some 72), .call 189 [(.k (.d (.i .i64 0))), (.k (.d (.i .i64 1)))] 0 true, none, 0⟩,
  ⟨(some 73), .call 189 [(.k (.d (.i .i64 2))), (.k (.d (.i .i64 1)))] 0 true, none, 0⟩,
  ⟨(some 74), .bsa 8 2 [(.i .i64 0), (.i .i64 0), (.i .i64 0), (.s []), (.l 4 []), (.i .i64 0), (.i .i64 0), (.l 8 [])] [(0, (.t 72)), (1, (.t 73))], none, 0⟩,
  ⟨(some 75), .build [(.d (.i .i64 0)), (.d (.i .i64 0)), (.d (.i .i64 0)), (.d (.s [])), (.nil 4), (.d (.i .i64 0)), (.d (.i .i64 0)), (.nil 8)] [(0, 1, (.k (.d (.i .i64 4)))), (7, 1, (.t 74))], none, 0⟩,
  ⟨(some 76), .build [(.d (.i .i64 0)), (.d (.i .i64 0)), (.d (.i .i64 0)), (.d (.i .i64 0)), (.d (.i .i64 0)), (.d (.s [])), (.nil 4), (.d (.i .i64 0)), (.d (.i .i64 0)), (.nil 8)] [(0, 1, (.k (.d (.i .i64 3)))), (1, 1, (.k (.d (.i .i64 1)))), (2, 8, (.t 75))], none, 0⟩,
  ⟨(some 77), .call 189 [(.k (.d (.i .i64 3))), (.k (.d (.i .i64 2)))] 0 true, none, 0⟩,
  ⟨(some 78), .build [(.d (.i .i64 0)), (.d (.i .i64 0)), (.d (.i .i64 0)), (.d (.i .i64 0)), (.d (.i .i64 0)), (.d (.s [])), (.nil 4), (.d (.i .i64 0)), (.d (.i .i64 0)), (.nil 8)] [(0, 1, (.k (.d (.i .i64 0)))), (1, 1, (.k (.d (.i .i64 2)))), (2, 8, (.t 77))], none, 0⟩,
  ⟨(some 79), .bsa 10 4 [(.i .i64 0), (.i .i64 0), (.i .i64 0), (.i .i64 0), (.i .i64 0), (.s []), (.l 4 []), (.i .i64 0), (.i .i64 0), (.l 8 [])] [(0, (.t 69)), (1, (.t 71)), (2, (.t 76)), (3, (.t 78))], none, 0⟩,
  ⟨(some 80), .build [(.d (.i .i64 0)), (.nil 2), (.nil 10)] [(0, 1, (.k (.d (.i .i64 2)))), (1, 1, (.t 67)), (2, 1, (.t 79))], none, 0⟩,
  ⟨(some 81), .call 189 [(.k (.d (.i .i64 0))), (.k (.d (.i .i64 1)))] 0 true, none, 0⟩,
  ⟨(some 82), .build [(.d (.i .i64 0)), (.d (.i .i64 0)), (.d (.i .i64 0)), (.d (.i .i64 0)), (.d (.i .i64 0)), (.d (.s [])), (.nil 4), (.d (.i .i64 0)), (.d (.i .i64 0)), (.nil 8)] [(0, 1, (.k (.d (.i .i64 0)))), (1, 1, (.k (.d (.i .i64 2)))), (2, 8, (.t 81))], none, 0⟩,
  ⟨(some 83), .bsa 10 1 [(.i .i64 0), (.i .i64 0), (.i .i64 0), (.i .i64 0), (.i .i64 0), (.s []), (.l 4 []), (.i .i64 0), (.i .i64 0), (.l 8 [])] [(0, (.t 82))], none, 0⟩,
  ⟨(some 84), .build [(.d (.i .i64 0)), (.nil 2), (.nil 10)] [(0, 1, (.k (.d (.i .i64 2)))), (2, 1, (.t 83))], none, 0⟩,
  ⟨(some 85), .call 190 [(.k (.d (.i .i64 0)))] 0 true, none, 0⟩,
  ⟨(some 86), .bsa 2 1 [(.b false), (.i .i64 0)] [(0, (.t 85))], none, 0⟩,
  ⟨(some 87), .build [(.d (.i .i64 0)), (.d (.i .i64 0)), (.d (.i .i64 0)), (.d (.s [])), (.nil 4), (.d (.i .i64 0)), (.d (.i .i64 0)), (.nil 8)] [(0, 1, (.k (.d (.i .i64 3)))), (5, 1, (.k (.d (.i .i64 1))))], none, 0⟩,
  ⟨(some 88), .build [(.d (.i .i64 0)), (.d (.i .i64 0)), (.d (.i .i64 0)), (.d (.i .i64 0)), (.d (.i .i64 0)), (.d (.s [])), (.nil 4), (.d (.i .i64 0)), (.d (.i .i64 0)), (.nil 8)] [(0, 1, (.k (.d (.i .i64 0)))), (1, 1, (.k (.d (.i .i64 1)))), (2, 8, (.t 87))], none, 0⟩,
  ⟨(some 89), .build [(.d (.i .i64 0)), (.d (.i .i64 0)), (.d (.s [])), (.nil 4)] [(0, 1, (.k (.d (.i .i64 1)))), (1, 1, (.k (.d (.i .i64 1))))], none, 0⟩,
  ⟨(some 90), .call 188 [(.t 89)] 0 true, none, 0⟩,
  ⟨(some 91), .build [(.d (.i .i64 0)), (.d (.i .i64 0)), (.d (.i .i64 0)), (.d (.i .i64 0)), (.d (.i .i64 0)), (.d (.s [])), (.nil 4), (.d (.i .i64 0)), (.d (.i .i64 0)), (.nil 8)] [(0, 1, (.k (.d (.i .i64 0)))), (1, 1, (.k (.d (.i .i64 2)))), (2, 8, (.t 90))], none, 0⟩,
  ⟨(some 92), .bsa 10 2 [(.i .i64 0), (.i .i64 0), (.i .i64 0), (.i .i64 0), (.i .i64 0), (.s []), (.l 4 []), (.i .i64 0), (.i .i64 0), (.l 8 [])] [(0, (.t 88)), (1, (.t 91))], none, 0⟩,
  ⟨(some 93), .build [(.d (.i .i64 0)), (.nil 2), (.nil 10)] [(0, 1, (.k (.d (.i .i64 3)))), (1, 1, (.t 86)), (2, 1, (.t 92))], none, 0⟩,
  ⟨(some 94), .call 190 [(.k (.d (.i .i64 1)))] 0 true, none, 0⟩,
  ⟨(some 95), .bsa 2 1 [(.b false), (.i .i64 0)] [(0, (.t 94))], none, 0⟩,
  ⟨(some 96), .call 189 [(.k (.d (.i .i64 0))), (.k (.d (.i .i64 0)))] 0 true, none, 0⟩,
  ⟨(some 97), .build [(.d (.i .i64 0)), (.d (.i .i64 0)), (.d (.i .i64 0)), (.d (.s [])), (.nil 4), (.d (.i .i64 0)), (.d (.i .i64 0)), (.nil 8)] [(0, 1, (.k (.d (.i .i64 2)))), (5, 1, (.k (.d (.i .i64 1))))], none, 0⟩,
  ⟨(some 98), .bsa 8 2 [(.i .i64 0), (.i .i64 0), (.i .i64 0), (.s []), (.l 4 []), (.i .i64 0), (.i .i64 0), (.l 8 [])] [(0, (.t 96)), (1, (.t 97))], none, 0⟩,
  ⟨(some 99), .build [(.d (.i .i64 0)), (.d (.i .i64 0)), (.d (.i .i64 0)), (.d (.s [])), (.nil 4), (.d (.i .i64 0)), (.d (.i .i64 0)), (.nil 8)] [(0, 1, (.k (.d (.i .i64 17)))), (7, 1, (.t 98))], none, 0⟩,
  ⟨(some 100), .build [(.d (.i .i64 0)), (.d (.i .i64 0)), (.d (.i .i64 0)), (.d (.i .i64 0)), (.d (.i .i64 0)), (.d (.s [])), (.nil 4), (.d (.i .i64 0)), (.d (.i .i64 0)), (.nil 8)] [(0, 1, (.k (.d (.i .i64 0)))), (1, 1, (.k (.d (.i .i64 1)))), (2, 8, (.t 99))], none, 0⟩,
  ⟨(some 101), .build [(.d (.i .i64 0)), (.d (.i .i64 0)), (.d (.i .i64 0)), (.d (.s [])), (.nil 4), (.d (.i .i64 0)), (.d (.i .i64 0)), (.nil 8)] [(0, 1, (.k (.d (.i .i64 2)))), (5, 1, (.k (.d (.i .i64 1))))], none, 0⟩,
  ⟨(some 102), .bsa 8 1 [(.i .i64 0), (.i .i64 0), (.i .i64 0), (.s []), (.l 4 []), (.i .i64 0), (.i .i64 0), (.l 8 [])] [(0, (.t 101))], none, 0⟩,
  ⟨(some 103), .build [(.d (.i .i64 0)), (.d (.i .i64 0)), (.d (.i .i64 0)), (.d (.s [])), (.nil 4), (.d (.i .i64 0)), (.d (.i .i64 0)), (.nil 8)] [(0, 1, (.k (.d (.i .i64 15)))), (7, 1, (.t 102))], none, 0⟩,
  ⟨(some 104), .build [(.d (.i .i64 0)), (.d (.i .i64 0)), (.d (.i .i64 0)), (.d (.i .i64 0)), (.d (.i .i64 0)), (.d (.s [])), (.nil 4), (.d (.i .i64 0)), (.d (.i .i64 0)), (.nil 8)] [(0, 1, (.k (.d (.i .i64 0)))), (1, 1, (.k (.d (.i .i64 2)))), (2, 8, (.t 103))], none, 0⟩,
  ⟨(some 105), .bsa 10 2 [(.i .i64 0), (.i .i64 0), (.i .i64 0), (.i .i64 0), (.i .i64 0), (.s []), (.l 4 []), (.i .i64 0), (.i .i64 0), (.l 8 [])] [(0, (.t 100)), (1, (.t 104))], none, 0⟩,
  ⟨(some 106), .build [(.d (.i .i64 0)), (.nil 2), (.nil 10)] [(0, 1, (.k (.d (.i .i64 3)))), (1, 1, (.t 95)), (2, 1, (.t 105))], none, 0⟩,
  ⟨(some 107), .call 190 [(.k (.d (.i .i64 4)))] 0 true, none, 0⟩,
  ⟨(some 108), .build [(.d (.b false)), (.d (.i .i64 0))] [(1, 1, (.k (.d (.i .i64 1))))], none, 0⟩,
  ⟨(some 109), .call 190 [(.k (.d (.i .i64 5)))] 0 true, none, 0⟩,
  ⟨(some 110), .bsa 2 3 [(.b false), (.i .i64 0)] [(0, (.t 107)), (1, (.t 108)), (2, (.t 109))], none, 0⟩,
  ⟨(some 111), .call 189 [(.k (.d (.i .i64 0))), (.k (.d (.i .i64 0)))] 0 true, none, 0⟩,
  ⟨(some 112), .build [(.d (.i .i64 0)), (.d (.i .i64 0)), (.d (.i .i64 0)), (.d (.i .i64 0)), (.d (.i .i64 0)), (.d (.s [])), (.nil 4), (.d (.i .i64 0)), (.d (.i .i64 0)), (.nil 8)] [(0, 1, (.k (.d (.i .i64 2)))), (1, 1, (.k (.d (.i .i64 0)))), (2, 8, (.t 111))], none, 0⟩,
  ⟨(some 113), .call 189 [(.k (.d (.i .i64 2))), (.k (.d (.i .i64 1)))] 0 true, none, 0⟩,
  ⟨(some 114), .build [(.d (.i .i64 0)), (.d (.i .i64 0)), (.d (.i .i64 0)), (.d (.i .i64 0)), (.d (.i .i64 0)), (.d (.s [])), (.nil 4), (.d (.i .i64 0)), (.d (.i .i64 0)), (.nil 8)] [(0, 1, (.k (.d (.i .i64 0)))), (1, 1, (.k (.d (.i .i64 1)))), (2, 8, (.t 113))], none, 0⟩,
  ⟨(some 115), .build [(.d (.i .i64 0)), (.d (.i .i64 0)), (.d (.s [])), (.nil 4)] [(0, 1, (.k (.d (.i .i64 1)))), (1, 1, (.k (.d (.i .i64 2))))], none, 0⟩,
  ⟨(some 116), .call 188 [(.t 115)] 0 true, none, 0⟩,
  ⟨(some 117), .build [(.d (.i .i64 0)), (.d (.i .i64 0)), (.d (.i .i64 0)), (.d (.i .i64 0)), (.d (.i .i64 0)), (.d (.s [])), (.nil 4), (.d (.i .i64 0)), (.d (.i .i64 0)), (.nil 8)] [(0, 1, (.k (.d (.i .i64 0)))), (1, 1, (.k (.d (.i .i64 2)))), (2, 8, (.t 116))], none, 0⟩,
  ⟨(some 118), .bsa 10 3 [(.i .i64 0), (.i .i64 0), (.i .i64 0), (.i .i64 0), (.i .i64 0), (.s []), (.l 4 []), (.i .i64 0), (.i .i64 0), (.l 8 [])] [(0, (.t 112)), (1, (.t 114)), (2, (.t 117))], none, 0⟩,
  ⟨(some 119), .build [(.d (.i .i64 0)), (.nil 2), (.nil 10)] [(0, 1, (.k (.d (.i .i64 3)))), (1, 1, (.t 110)), (2, 1, (.t 118))], none, 0⟩,
  ⟨(some 120), .bsa 3 7 [(.i .i64 0), (.l 2 []), (.l 10 [])] [(0, (.t 50)), (1, (.t 63)), (2, (.t 80)), (3, (.t 84)), (4, (.t 93)), (5, (.t 106)), (6, (.t 119))], none, 0⟩,
  ⟨(some 121), .fa 2 (.t 3), none, 0⟩,
  ⟨none, .st 1 (.t 121) (.t 120), none, 0⟩]) (
.seq (.seq (.region false [
  ⟨(some 122), .mv (.t 0), none, 0⟩,
  ⟨(some 123), .bin .rem (.t 122) (.k (.d (.i .i64 4))), none, 0⟩]) (
.block 0 (.seq (.region false [
  ⟨(some 125), .bin .eql (.t 123) (.k (.d (.i .i64 1))), none, 0⟩,
  ⟨(some 124), .mv (.t 125), none, 0⟩]) (
.cond (.t 124) (
.region true [
  ⟨(some 126), .fa 2 (.t 3), none, 0⟩,
  ⟨(some 127), .ld false 1 (.t 126), none, 1⟩,
  ⟨(some 128), .call 190 [(.k (.d (.i .i64 7)))] 0 true, none, 0⟩,
  ⟨(some 129), .call 190 [(.k (.d (.i .i64 1)))] 0 true, none, 4⟩,
  ⟨(some 130), .build [(.d (.b false)), (.d (.i .i64 0))] [(1, 1, (.k (.d (.i .i64 3))))], none, 0⟩,
  ⟨(some 131), .build [(.d (.b false)), (.d (.i .i64 0))] [(1, 1, (.k (.d (.i .i64 3))))], none, 0⟩,
  ⟨(some 132), .bsa 2 4 [(.b false), (.i .i64 0)] [(0, (.t 128)), (1, (.t 129)), (2, (.t 130)), (3, (.t 131))], none, 60⟩,
  ⟨(some 133), .call 189 [(.k (.d (.i .i64 0))), (.k (.d (.i .i64 0)))] 0 true, none, 12⟩,
  ⟨(some 134), .build [(.d (.i .i64 0)), (.d (.i .i64 0)), (.d (.i .i64 0)), (.d (.i .i64 0)), (.d (.i .i64 0)), (.d (.s [])), (.nil 4), (.d (.i .i64 0)), (.d (.i .i64 0)), (.nil 8)] [(0, 1, (.k (.d (.i .i64 3)))), (1, 1, (.k (.d (.i .i64 0)))), (2, 8, (.t 133))], none, 140⟩,
  ⟨(some 135), .call 189 [(.k (.d (.i .i64 0))), (.k (.d (.i .i64 0)))] 0 true, none, 140⟩,
  ⟨(some 136), .build [(.d (.i .i64 0)), (.d (.i .i64 0)), (.d (.i .i64 0)), (.d (.s [])), (.nil 4), (.d (.i .i64 0)), (.d (.i .i64 0)), (.nil 8)] [(0, 1, (.k (.d (.i .i64 2)))), (5, 1, (.k (.d (.i .i64 2))))], none, 0⟩,
  ⟨(some 137), .call 189 [(.k (.d (.i .i64 3))), (.k (.d (.i .i64 1)))] 0 true, none, 652⟩,
  ⟨(some 138), .bsa 8 3 [(.i .i64 0), (.i .i64 0), (.i .i64 0), (.s []), (.l 4 []), (.i .i64 0), (.i .i64 0), (.l 8 [])] [(0, (.t 135)), (1, (.t 136)), (2, (.t 137))], none, 3724⟩,
  ⟨(some 139), .build [(.d (.i .i64 0)), (.d (.i .i64 0)), (.d (.i .i64 0)), (.d (.s [])), (.nil 4), (.d (.i .i64 0)), (.d (.i .i64 0)), (.nil 8)] [(0, 1, (.k (.d (.i .i64 16)))), (7, 1, (.t 138))], none, 7820⟩,
  ⟨(some 140), .build [(.d (.i .i64 0)), (.d (.i .i64 0)), (.d (.i .i64 0)), (.d (.i .i64 0)), (.d (.i .i64 0)), (.d (.s [])), (.nil 4), (.d (.i .i64 0)), (.d (.i .i64 0)), (.nil 8)] [(0, 1, (.k (.d (.i .i64 4)))), (1, 1, (.k (.d (.i .i64 0)))), (2, 8, (.t 139))], none, 16012⟩,
  ⟨(some 141), .call 189 [(.k (.d (.i .i64 4))), (.k (.d (.i .i64 1)))] 0 true, none, 2700⟩,
  ⟨(some 142), .build [(.d (.i .i64 0)), (.d (.i .i64 0)), (.d (.i .i64 0)), (.d (.i .i64 0)), (.d (.i .i64 0)), (.d (.s [])), (.nil 4), (.d (.i .i64 0)), (.d (.i .i64 0)), (.nil 8)] [(0, 1, (.k (.d (.i .i64 0)))), (1, 1, (.k (.d (.i .i64 1)))), (2, 8, (.t 141))], none, 35468⟩,
  ⟨(some 143), .call 189 [(.k (.d (.i .i64 3))), (.k (.d (.i .i64 2)))] 0 true, none, 35468⟩,
  ⟨(some 144), .call 189 [(.k (.d (.i .i64 4))), (.k (.d (.i .i64 2)))] 0 true, none, 166540⟩,
  ⟨(some 145), .bsa 8 2 [(.i .i64 0), (.i .i64 0), (.i .i64 0), (.s []), (.l 4 []), (.i .i64 0), (.i .i64 0), (.l 8 [])] [(0, (.t 143)), (1, (.t 144))], none, 428684⟩,
  ⟨(some 146), .build [(.d (.i .i64 0)), (.d (.i .i64 0)), (.d (.i .i64 0)), (.d (.s [])), (.nil 4), (.d (.i .i64 0)), (.d (.i .i64 0)), (.nil 8)] [(0, 1, (.k (.d (.i .i64 4)))), (7, 1, (.t 145))], none, 952972⟩,
  ⟨(some 147), .build [(.d (.i .i64 0)), (.d (.i .i64 0)), (.d (.i .i64 0)), (.d (.i .i64 0)), (.d (.i .i64 0)), (.d (.s [])), (.nil 4), (.d (.i .i64 0)), (.d (.i .i64 0)), (.nil 8)] [(0, 1, (.k (.d (.i .i64 0)))), (1, 1, (.k (.d (.i .i64 2)))), (2, 8, (.t 146))], none, 2001548⟩,
  ⟨(some 148), .bsa 10 4 [(.i .i64 0), (.i .i64 0), (.i .i64 0), (.i .i64 0), (.i .i64 0), (.s []), (.l 4 []), (.i .i64 0), (.i .i64 0), (.l 8 [])] [(0, (.t 134)), (1, (.t 140)), (2, (.t 142)), (3, (.t 147))], none, 4194188⟩,
  ⟨(some 149), .build [(.d (.i .i64 0)), (.nil 2), (.nil 10)] [(0, 1, (.k (.d (.i .i64 3)))), (1, 1, (.t 132)), (2, 1, (.t 148))], none, 8388604⟩,
  ⟨(some 150), .bsa 3 1 [(.i .i64 0), (.l 2 []), (.l 10 [])] [(0, (.t 149))], none, 16777212⟩,
  ⟨(some 151), .apa 3 56 (.t 127) (.t 150), none, 33554431⟩,
  ⟨(some 152), .fa 2 (.t 3), none, 67108863⟩,
  ⟨none, .st 1 (.t 152) (.t 151), none, 134217727⟩]) (.seq (.region false [
  ⟨(some 154), .bin .eql (.t 123) (.k (.d (.i .i64 2))), none, 0⟩,
  ⟨(some 153), .mv (.t 154), none, 0⟩]) (
.cond (.t 153) (
.region false [
  ⟨(some 155), .fa 2 (.t 3), none, 0⟩,
  ⟨(some 156), .ld false 1 (.t 155), none, 0⟩,
  ⟨(some 157), .ia 3 (.t 156) (.k (.d (.i .i64 2))), none, 0⟩,
  ⟨(some 158), .fa 2 (.t 157), none, 0⟩,
  ⟨(some 159), .ld false 1 (.t 158), none, 0⟩,
  ⟨(some 160), .ia 10 (.t 159) (.k (.d (.i .i64 2))), none, 0⟩,
  ⟨(some 161), .fa 2 (.t 160), none, 0⟩,
  ⟨(some 162), .fa 0 (.t 161), none, 0⟩,
  ⟨none, .st 1 (.t 162) (.k (.d (.i .i64 6))), none, 0⟩]) (.seq (.region false [
  ⟨(some 164), .bin .eql (.t 123) (.k (.d (.i .i64 3))), none, 0⟩,
  ⟨(some 163), .mv (.t 164), none, 0⟩]) (
.cond (.t 163) (
.region false [
  ⟨(some 165), .fa 2 (.t 3), none, 0⟩,
  ⟨(some 166), .ld false 1 (.t 165), none, 0⟩,
  ⟨(some 167), .ia 3 (.t 166) (.k (.d (.i .i64 0))), none, 0⟩,
  ⟨(some 168), .fa 2 (.t 167), none, 0⟩,
  ⟨(some 169), .ld false 1 (.t 168), none, 0⟩,
  ⟨(some 170), .build [(.d (.i .i64 0)), (.d (.i .i64 0)), (.d (.i .i64 0)), (.d (.s [])), (.nil 4), (.d (.i .i64 0)), (.d (.i .i64 0)), (.nil 8)] [(0, 1, (.k (.d (.i .i64 22))))], none, 0⟩,
  ⟨(some 171), .ia 10 (.t 169) (.k (.d (.i .i64 0))), none, 0⟩,
  ⟨(some 172), .fa 2 (.t 171), none, 0⟩,
  ⟨none, .st 8 (.t 172) (.t 170), none, 0⟩]) (.skip))))))))) (
.seq (.region false [
  ⟨(some 173), .ld true 3 (.t 3), none, 0⟩,
  ⟨none, .st 3 (.t 2) (.t 173), none, 0⟩]) (
.ret))))))), [.cell 2 true 3]⟩
def n170 : Notes := ⟨[], [0, 0, 0, 0, 0, 0, 0, 0, 0, 1, 0, 0, 0, 0, 0, 0, 0, 0, 1, 0, 1, 1, 0, 1, 1, 0, 1, 1, 0, 1, 0, 0, 0, 1, 0, 0, 0, 0, 0, 1, 0, 0, 0, 0, 0, 0, 0, 1, 0, 0, 1, 0, 0, 0, 1, 0, 0, 0, 0, 0, 0, 0, 0, 1, 0, 0, 0, 0, 1, 0, 0, 0, 0, 0, 0, 1, 0, 0, 0, 0, 1, 0, 0, 0, 1, 0, 0, 1, 0, 0, 0, 0, 0, 1, 0, 0, 1, 0, 0, 1, 0, 0, 0, 1, 0, 0, 1, 0, 0, 0, 0, 1, 0, 0, 0, 0, 0, 0, 0, 1, 0, 1, 0, 0, 0, 0, 0, 0, 0, 0, 0, 0, 0, 0, 1, 0, 0, 0, 0, 0, 1, 0, 0, 0, 0, 0, 0, 1, 0, 0, 1, 0, 1, 1]⟩

/-- lemmata/lemmatalaw18.begun -/
def c171 : CFn := ⟨.seq (.region false [
  ⟨(some 0), .mv (.k (.d (.b false))), none, 0⟩]) (
.seq (.region false [
  ⟨(some 2), .call 170 [(.k (.d (.i .i64 0)))] 0 true, none, 0⟩,
  ⟨(some 3), .call 172 [(.t 2), (.k (.d (.i .i64 1)))] 0 true, none, 0⟩,
  ⟨(some 1), .mv (.t 3), none, 0⟩]) (
.seq (.region false [
  ⟨(some 4), .mv (.t 1), none, 0⟩,
  ⟨(some 5), .len 0 (.t 4), none, 0⟩,
  ⟨(some 6), .bin .eql (.t 5) (.k (.d (.i .i64 4))), none, 0⟩,
  ⟨(some 7), .mv (.t 6), none, 0⟩,
  ⟨(some 8), .mv (.t 1), (some (7, true)), 0⟩,
  ⟨(some 9), .ia 4 (.t 8) (.k (.d (.i .i64 0))), (some (7, true)), 0⟩,
  ⟨(some 10), .ld true 4 (.t 9), (some (7, true)), 0⟩,
  ⟨(some 11), .build [(.d (.i .i64 0)), (.d (.i .i64 0))] [(0, 1, (.k (.d (.i .i64 1)))), (1, 1, (.k (.d (.i .i64 0))))], (some (7, true)), 0⟩,
  ⟨(some 12), .build [(.d (.i .i64 0)), (.d (.i .i64 0)), (.d (.i .i64 0)), (.d (.i .i64 0))] [(2, 2, (.t 11))], (some (7, true)), 0⟩,
  ⟨(some 13), .eqa [.i, .i, .i, .i] false (.t 10) (.t 12), (some (7, true)), 0⟩,
  ⟨(some 14), .pick (.t 7) (.t 13) (.k (.d (.b false))), none, 0⟩,
  ⟨(some 15), .mv (.t 14), none, 0⟩,
  ⟨(some 16), .mv (.t 1), (some (15, true)), 0⟩,
  ⟨(some 17), .ia 4 (.t 16) (.k (.d (.i .i64 2))), (some (15, true)), 0⟩,
  ⟨(some 18), .ld true 4 (.t 17), (some (15, true)), 0⟩,
  ⟨(some 19), .build [(.d (.i .i64 0)), (.d (.i .i64 0))] [(0, 1, (.k (.d (.i .i64 1)))), (1, 1, (.k (.d (.i .i64 1))))], (some (15, true)), 0⟩,
  ⟨(some 20), .build [(.d (.i .i64 0)), (.d (.i .i64 0))] [(0, 1, (.k (.d (.i .i64 2)))), (1, 1, (.k (.d (.i .i64 1))))], (some (15, true)), 0⟩,
  ⟨(some 21), .build [(.d (.i .i64 0)), (.d (.i .i64 0)), (.d (.i .i64 0)), (.d (.i .i64 0))] [(0, 2, (.t 19)), (2, 2, (.t 20))], (some (15, true)), 0⟩,
  ⟨(some 22), .eqa [.i, .i, .i, .i] false (.t 18) (.t 21), (some (15, true)), 0⟩,
  ⟨(some 23), .pick (.t 15) (.t 22) (.k (.d (.b false))), none, 0⟩,
  ⟨(some 24), .mv (.t 23), none, 0⟩,
  ⟨(some 25), .call 170 [(.k (.d (.i .i64 0)))] 0 true, (some (24, true)), 0⟩,
  ⟨(some 26), .call 172 [(.t 25), (.k (.d (.i .i64 9)))] 0 true, (some (24, true)), 0⟩,
  ⟨(some 27), .len 0 (.t 26), (some (24, true)), 0⟩,
  ⟨(some 28), .bin .eql (.t 27) (.k (.d (.i .i64 0))), (some (24, true)), 0⟩,
  ⟨(some 29), .pick (.t 24) (.t 28) (.k (.d (.b false))), none, 0⟩,
  ⟨(some 0), .mv (.t 29), none, 0⟩]) (
.ret))), [.slot 0]⟩
def n171 : Notes := ⟨[], []⟩

/-- lemmata/local.Edges -/
def c172 : CFn := ⟨.seq (.region false [
  ⟨(some 2), .box (.t 0), none, 0⟩,
  ⟨(some 4), .mv (.k (.nil 4)), none, 0⟩]) (
.seq (.seq (.region false [
  ⟨(some 9), .ld true 3 (.t 2), none, 0⟩,
  ⟨(some 10), .lend 169 [(.t 9)], none, 0⟩,
  ⟨(some 11), .un .not (.t 10), none, 0⟩,
  ⟨(some 12), .mv (.t 11), none, 0⟩,
  ⟨(some 13), .mv (.t 1), (some (12, false)), 0⟩,
  ⟨(some 14), .bin .lss (.t 13) (.k (.d (.i .i64 0))), (some (12, false)), 0⟩,
  ⟨(some 15), .pick (.t 12) (.k (.d (.b true))) (.t 14), none, 0⟩,
  ⟨(some 16), .mv (.t 15), none, 0⟩,
  ⟨(some 17), .mv (.t 1), (some (16, false)), 0⟩,
  ⟨(some 18), .fa 2 (.t 2), (some (16, false)), 0⟩,
  ⟨(some 19), .ld false 1 (.t 18), (some (16, false)), 0⟩,
  ⟨(some 20), .len 0 (.t 19), (some (16, false)), 0⟩,
  ⟨(some 21), .bin .geq (.t 17) (.t 20), (some (16, false)), 0⟩,
  ⟨(some 22), .pick (.t 16) (.k (.d (.b true))) (.t 21), none, 0⟩]) (
.cond (.t 22) (
.seq (.region false [
  ⟨(some 4), .mv (.k (.nil 4)), none, 0⟩]) (
.ret)) (.skip))) (
.seq (.seq (.region false [
  ⟨(some 23), .fa 2 (.t 2), none, 0⟩,
  ⟨(some 24), .ld false 1 (.t 23), none, 0⟩,
  ⟨(some 25), .mv (.t 1), none, 0⟩,
  ⟨(some 26), .ia 3 (.t 24) (.t 25), none, 0⟩,
  ⟨(some 27), .fa 2 (.t 26), none, 0⟩,
  ⟨(some 28), .ld false 1 (.t 27), none, 0⟩,
  ⟨(some 29), .len 0 (.t 28), none, 0⟩,
  ⟨(some 30), .mv (.k (.d (.i .i64 0))), none, 0⟩]) (
.block 0 (.loop ⟨[4, 28, 29, 30], [4], [], [], [], true⟩ (.seq (.region false [
  ⟨(some 31), .bin .lss (.t 30) (.t 29), none, 0⟩]) (
.seq (.cond (.t 31) (
.skip) (.exit 0)) (
.seq (.block 1 (.seq (.region false [
  ⟨(some 32), .ia 10 (.t 28) (.t 30), none, 0⟩,
  ⟨(some 33), .ld true 10 (.t 32), none, 0⟩,
  ⟨(some 6), .zero (.agg [(.d (.i .i64 0)), (.d (.i .i64 0)), (.d (.i .i64 0)), (.d (.i .i64 0)), (.d (.i .i64 0)), (.d (.s [])), (.nil 4), (.d (.i .i64 0)), (.d (.i .i64 0)), (.nil 8)]), none, 0⟩,
  ⟨none, .st 10 (.t 6) (.t 33), none, 0⟩]) (
.seq (.region false [
  ⟨(some 34), .fa 2 (.t 6), none, 0⟩,
  ⟨(some 35), .ld true 8 (.t 34), none, 0⟩,
  ⟨(some 36), .call 192 [(.t 35)] 0 true, none, 0⟩,
  ⟨(some 37), .call 191 [(.t 36)] 0 true, none, 0⟩,
  ⟨(some 38), .len 0 (.t 37), none, 0⟩,
  ⟨(some 39), .mv (.k (.d (.i .i64 0))), none, 0⟩]) (
.block 2 (.loop ⟨[4, 6, 28, 29, 30, 37, 38, 39], [4], [], [], [], true⟩ (.seq (.region false [
  ⟨(some 40), .bin .lss (.t 39) (.t 38), none, 0⟩]) (
.seq (.cond (.t 40) (
.skip) (.exit 2)) (
.seq (.block 3 (.seq (.region false [
  ⟨(some 41), .ia 2 (.t 37) (.t 39), none, 0⟩,
  ⟨(some 42), .ld true 2 (.t 41), none, 0⟩,
  ⟨(some 8), .zero (.agg [(.d (.i .i64 0)), (.d (.i .i64 0))]), none, 0⟩,
  ⟨none, .st 2 (.t 8) (.t 42), none, 0⟩]) (
.region false [
  ⟨(some 43), .mv (.t 4), none, 0⟩,
  ⟨(some 44), .ld true 2 (.t 8), none, 0⟩,
  ⟨(some 45), .fa 0 (.t 6), none, 0⟩,
  ⟨(some 46), .ld false 1 (.t 45), none, 0⟩,
  ⟨(some 47), .fa 1 (.t 6), none, 0⟩,
  ⟨(some 48), .ld false 1 (.t 47), none, 0⟩,
  ⟨(some 49), .build [(.d (.i .i64 0)), (.d (.i .i64 0))] [(0, 1, (.t 46)), (1, 1, (.t 48))], none, 0⟩,
  ⟨(some 50), .build [(.d (.i .i64 0)), (.d (.i .i64 0)), (.d (.i .i64 0)), (.d (.i .i64 0))] [(0, 2, (.t 44)), (2, 2, (.t 49))], none, 0⟩,
  ⟨(some 51), .bsl 4 1 [(.i .i64 0), (.i .i64 0), (.i .i64 0), (.i .i64 0)] [(0, (.t 50))], none, 0⟩,
  ⟨(some 52), .app 4 32 (.t 43) (.t 51), none, 0⟩,
  ⟨(some 4), .mv (.t 52), none, 0⟩]))) (
.region false [
  ⟨(some 53), .bin .add (.t 39) (.k (.d (.i .i64 1))), none, 0⟩,
  ⟨(some 39), .mv (.t 53), none, 0⟩]))))))))) (
.region false [
  ⟨(some 54), .bin .add (.t 30) (.k (.d (.i .i64 1))), none, 0⟩,
  ⟨(some 30), .mv (.t 54), none, 0⟩]))))))) (
.seq (.region false [
  ⟨(some 55), .mv (.t 4), none, 0⟩,
  ⟨(some 4), .mv (.t 55), none, 0⟩]) (
.ret)))), [.slot 4]⟩
def n172 : Notes := ⟨[⟨[4, 28, 29, 30], [4], [], [], [], true⟩, ⟨[4, 6, 28, 29, 30, 37, 38, 39], [4], [], [], [], true⟩], [0, 0, 0, 1]⟩

/-- lemmata/lemmatalaw18.same -/
def c176 : CFn := ⟨.seq (.region false [
  ⟨(some 4), .mv (.k (.d (.b false))), none, 0⟩]) (
.seq (.seq (.region false [
  ⟨(some 6), .mv (.t 0), none, 0⟩,
  ⟨(some 7), .len 0 (.t 6), none, 0⟩,
  ⟨(some 8), .mv (.t 1), none, 0⟩,
  ⟨(some 9), .len 0 (.t 8), none, 0⟩,
  ⟨(some 10), .bin .neq (.t 7) (.t 9), none, 0⟩]) (
.cond (.t 10) (
.seq (.region false [
  ⟨(some 4), .mv (.k (.d (.b false))), none, 0⟩]) (
.ret)) (.skip))) (
.seq (.seq (.region false [
  ⟨(some 5), .mv (.k (.d (.i .i64 0))), none, 0⟩]) (
.block 0 (.loop ⟨[0, 1, 5], [], [], [], [], true⟩ (.seq (.seq (.region false [
  ⟨(some 11), .mv (.t 5), none, 0⟩,
  ⟨(some 12), .mv (.t 0), none, 0⟩,
  ⟨(some 13), .len 0 (.t 12), none, 0⟩,
  ⟨(some 14), .bin .lss (.t 11) (.t 13), none, 0⟩]) (
.cond (.t 14) (
.skip) (.exit 0))) (
.seq (.block 1 (.seq (.region true [
  ⟨(some 17), .mv (.t 0), none, 0⟩,
  ⟨(some 18), .mv (.t 5), none, 0⟩,
  ⟨(some 19), .ia 4 (.t 17) (.t 18), none, 3⟩,
  ⟨(some 20), .ld true 4 (.t 19), none, 7⟩,
  ⟨(some 21), .mv (.t 1), none, 0⟩,
  ⟨(some 22), .mv (.t 5), none, 0⟩,
  ⟨(some 23), .ia 4 (.t 21) (.t 22), none, 48⟩,
  ⟨(some 24), .ld true 4 (.t 23), none, 112⟩,
  ⟨(some 25), .eqa [.i, .i, .i, .i] true (.t 20) (.t 24), none, 255⟩]) (
.cond (.t 25) (
.seq (.region false [
  ⟨(some 4), .mv (.k (.d (.b false))), none, 0⟩]) (
.ret)) (.skip)))) (
.region false [
  ⟨(some 15), .mv (.t 5), none, 0⟩,
  ⟨(some 16), .bin .add (.t 15) (.k (.d (.i .i64 1))), none, 0⟩,
  ⟨(some 5), .mv (.t 16), none, 0⟩])))))) (
.seq (.region false [
  ⟨(some 4), .mv (.k (.d (.b true))), none, 0⟩]) (
.ret)))), [.slot 4]⟩
def n176 : Notes := ⟨[⟨[0, 1, 5], [], [], [], [], true⟩], []⟩

/-- lemmata/attr.Count -/
def c181 : CFn := ⟨.seq (.region false [
  ⟨(some 2), .box (.t 0), none, 0⟩,
  ⟨(some 4), .mv (.k (.d (.i .i64 0))), none, 0⟩]) (
.seq (.region true [
  ⟨(some 5), .ld true 3 (.t 2), none, 0⟩,
  ⟨(some 6), .mv (.t 1), none, 0⟩,
  ⟨(some 7), .call 197 [(.t 5), (.t 6)] 0 true, none, 3⟩,
  ⟨(some 8), .fl false 1 1 (.t 7), none, 7⟩,
  ⟨(some 9), .len 0 (.t 8), none, 15⟩,
  ⟨(some 10), .ld true 3 (.t 2), none, 0⟩,
  ⟨(some 11), .mv (.t 1), none, 0⟩,
  ⟨(some 12), .call 197 [(.t 10), (.t 11)] 0 true, none, 103⟩,
  ⟨(some 13), .fl false 2 1 (.t 12), none, 231⟩,
  ⟨(some 14), .len 0 (.t 13), none, 487⟩,
  ⟨(some 15), .bin .add (.t 9) (.t 14), none, 1023⟩,
  ⟨(some 4), .mv (.t 15), none, 2047⟩]) (
.ret)), [.slot 4]⟩
def n181 : Notes := ⟨[], []⟩

/-- lemmata/attr.IsInh -/
def c182 : CFn := ⟨.seq (.region false [
  ⟨(some 3), .box (.t 0), none, 0⟩,
  ⟨(some 6), .mv (.k (.d (.b false))), none, 0⟩]) (
.seq (.region false [
  ⟨(some 7), .mv (.t 2), none, 0⟩,
  ⟨(some 8), .bin .geq (.t 7) (.k (.d (.i .i64 0))), none, 0⟩,
  ⟨(some 9), .mv (.t 8), none, 0⟩,
  ⟨(some 10), .mv (.t 2), (some (9, true)), 0⟩,
  ⟨(some 11), .ld true 3 (.t 3), (some (9, true)), 0⟩,
  ⟨(some 12), .mv (.t 1), (some (9, true)), 0⟩,
  ⟨(some 13), .call 197 [(.t 11), (.t 12)] 0 true, (some (9, true)), 0⟩,
  ⟨(some 14), .fl false 1 1 (.t 13), (some (9, true)), 0⟩,
  ⟨(some 15), .len 0 (.t 14), (some (9, true)), 0⟩,
  ⟨(some 16), .bin .lss (.t 10) (.t 15), (some (9, true)), 0⟩,
  ⟨(some 17), .pick (.t 9) (.t 16) (.k (.d (.b false))), none, 0⟩,
  ⟨(some 6), .mv (.t 17), none, 0⟩]) (
.ret)), [.slot 6]⟩
def n182 : Notes := ⟨[], []⟩

/-- lemmata/gram.May -/
def c184 : CFn := ⟨.seq (.region false [
  ⟨(some 1), .box (.t 0), none, 0⟩,
  ⟨(some 2), .mv (.k (.d (.b false))), none, 0⟩]) (
.seq (.seq (.region false [
  ⟨(some 9), .fa 0 (.t 1), none, 0⟩,
  ⟨(some 10), .ld false 1 (.t 9), none, 0⟩,
  ⟨(some 11), .call 198 [(.t 10), (.k (.d (.i .i64 8)))] 0 true, none, 0⟩,
  ⟨(some 12), .un .not (.t 11), none, 0⟩,
  ⟨(some 13), .mv (.t 12), none, 0⟩,
  ⟨(some 14), .fa 1 (.t 1), (some (13, false)), 0⟩,
  ⟨(some 15), .ld false 1 (.t 14), (some (13, false)), 0⟩,
  ⟨(some 16), .call 199 [(.t 15), (.k (.d (.i .i64 8)))] 0 true, (some (13, false)), 0⟩,
  ⟨(some 17), .un .not (.t 16), (some (13, false)), 0⟩,
  ⟨(some 18), .pick (.t 13) (.k (.d (.b true))) (.t 17), none, 0⟩,
  ⟨(some 19), .mv (.t 18), none, 0⟩,
  ⟨(some 20), .fa 2 (.t 1), (some (19, false)), 0⟩,
  ⟨(some 21), .ld false 1 (.t 20), (some (19, false)), 0⟩,
  ⟨(some 22), .call 200 [(.t 21), (.k (.d (.i .i64 16)))] 0 true, (some (19, false)), 0⟩,
  ⟨(some 23), .un .not (.t 22), (some (19, false)), 0⟩,
  ⟨(some 24), .pick (.t 19) (.k (.d (.b true))) (.t 23), none, 0⟩]) (
.cond (.t 24) (
.seq (.region false [
  ⟨(some 2), .mv (.k (.d (.b false))), none, 0⟩]) (
.ret)) (.skip))) (
.seq (.region false [
  ⟨(some 3), .mv (.k (.nil 1)), none, 0⟩]) (
.seq (.seq (.region false [
  ⟨(some 25), .fa 0 (.t 1), none, 0⟩,
  ⟨(some 26), .ld false 1 (.t 25), none, 0⟩,
  ⟨(some 27), .len 0 (.t 26), none, 0⟩,
  ⟨(some 28), .mv (.k (.d (.i .i64 0))), none, 0⟩]) (
.block 0 (.loop ⟨[1, 3, 26, 27, 28], [3], [], [], [], true⟩ (.seq (.region false [
  ⟨(some 29), .bin .lss (.t 28) (.t 27), none, 0⟩]) (
.seq (.cond (.t 29) (
.skip) (.exit 0)) (
.seq (.block 1 (.seq (.region false [
  ⟨(some 30), .ia 3 (.t 26) (.t 28), none, 0⟩,
  ⟨(some 31), .ld true 3 (.t 30), none, 0⟩,
  ⟨(some 5), .zero (.agg [(.d (.s [])), (.d (.s [])), (.d (.b false))]), none, 0⟩,
  ⟨none, .st 3 (.t 5) (.t 31), none, 0⟩]) (
.region false [
  ⟨(some 32), .mv (.t 3), none, 0⟩,
  ⟨(some 33), .fa 0 (.t 5), none, 0⟩,
  ⟨(some 34), .ld false 1 (.t 33), none, 0⟩,
  ⟨(some 35), .bsl 1 1 [(.s [])] [(0, (.t 34))], none, 0⟩,
  ⟨(some 36), .app 1 16 (.t 32) (.t 35), none, 0⟩,
  ⟨(some 3), .mv (.t 36), none, 0⟩]))) (
.region false [
  ⟨(some 37), .bin .add (.t 28) (.k (.d (.i .i64 1))), none, 0⟩,
  ⟨(some 28), .mv (.t 37), none, 0⟩]))))))) (
.seq (.seq (.region false [
  ⟨(some 38), .fa 1 (.t 1), none, 0⟩,
  ⟨(some 39), .ld false 1 (.t 38), none, 0⟩,
  ⟨(some 40), .len 0 (.t 39), none, 0⟩,
  ⟨(some 41), .mv (.k (.d (.i .i64 0))), none, 0⟩]) (
.block 2 (.loop ⟨[1, 3, 39, 40, 41], [3], [], [], [], true⟩ (.seq (.region false [
  ⟨(some 42), .bin .lss (.t 41) (.t 40), none, 0⟩]) (
.seq (.cond (.t 42) (
.skip) (.exit 2)) (
.seq (.block 3 (.seq (.region false [
  ⟨(some 43), .ia 3 (.t 39) (.t 41), none, 0⟩,
  ⟨(some 44), .ld true 3 (.t 43), none, 0⟩,
  ⟨(some 7), .zero (.agg [(.d (.s [])), (.nil 1), (.nil 1)]), none, 0⟩,
  ⟨none, .st 3 (.t 7) (.t 44), none, 0⟩]) (
.seq (.region false [
  ⟨(some 45), .mv (.t 3), none, 0⟩,
  ⟨(some 46), .fa 0 (.t 7), none, 0⟩,
  ⟨(some 47), .ld false 1 (.t 46), none, 0⟩,
  ⟨(some 48), .bsl 1 1 [(.s [])] [(0, (.t 47))], none, 0⟩,
  ⟨(some 49), .app 1 16 (.t 45) (.t 48), none, 0⟩,
  ⟨(some 3), .mv (.t 49), none, 0⟩]) (
.seq (.region false [
  ⟨(some 50), .fa 1 (.t 7), none, 0⟩,
  ⟨(some 51), .ld false 1 (.t 50), none, 0⟩,
  ⟨(some 52), .fa 2 (.t 7), none, 0⟩,
  ⟨(some 53), .ld false 1 (.t 52), none, 0⟩,
  ⟨(some 54), .bsl 1 2 [(.l 1 [])] [(0, (.t 51)), (1, (.t 53))], none, 0⟩,
  ⟨(some 55), .call 201 [(.t 54)] 0 true, none, 0⟩,
  ⟨(some 8), .mv (.t 55), none, 0⟩]) (
.seq (.region false [
  ⟨(some 56), .mv (.t 8), none, 0⟩,
  ⟨(some 57), .len 0 (.t 56), none, 0⟩,
  ⟨(some 58), .bin .gtr (.t 57) (.k (.d (.i .i64 4))), none, 0⟩,
  ⟨(some 59), .mv (.t 58), none, 0⟩,
  ⟨(some 60), .mv (.t 8), (some (59, false)), 0⟩,
  ⟨(some 61), .call 202 [(.t 60)] 0 true, (some (59, false)), 0⟩,
  ⟨(some 62), .un .not (.t 61), (some (59, false)), 0⟩,
  ⟨(some 63), .pick (.t 59) (.k (.d (.b true))) (.t 62), none, 0⟩]) (
.cond (.t 63) (
.seq (.region false [
  ⟨(some 2), .mv (.k (.d (.b false))), none, 0⟩]) (
.ret)) (.skip))))))) (
.region false [
  ⟨(some 64), .bin .add (.t 41) (.k (.d (.i .i64 1))), none, 0⟩,
  ⟨(some 41), .mv (.t 64), none, 0⟩]))))))) (
.seq (.region false [
  ⟨(some 65), .mv (.t 3), none, 0⟩,
  ⟨(some 66), .call 202 [(.t 65)] 0 true, none, 0⟩,
  ⟨(some 67), .mv (.t 66), none, 0⟩,
  ⟨(some 68), .fa 2 (.t 1), (some (67, true)), 0⟩,
  ⟨(some 69), .ld false 1 (.t 68), (some (67, true)), 0⟩,
  ⟨(some 70), .mkf 204 [] [(.t 1)] true, (some (67, true)), 0⟩,
  ⟨(some 71), .call 203 [(.t 69), (.t 70)] 4 true, (some (67, true)), 0⟩,
  ⟨(some 72), .un .not (.t 71), (some (67, true)), 0⟩,
  ⟨(some 73), .pick (.t 67) (.t 72) (.k (.d (.b false))), none, 0⟩,
  ⟨(some 2), .mv (.t 73), none, 0⟩]) (
.ret)))))), [.slot 2]⟩
def n184 : Notes := ⟨[⟨[1, 3, 26, 27, 28], [3], [], [], [], true⟩, ⟨[1, 3, 39, 40, 41], [3], [], [], [], true⟩], [0, 0, 0, 0, 0, 0, 0, 0, 0, 0, 0, 0, 0, 0, 0, 0, 0, 0, 0, 0, 0, 0, 0, 0, 0, 0, 0, 0, 0, 0, 0, 0, 0, 0, 0, 0, 0, 0, 0, 0, 0, 0, 0, 0, 0, 0, 0, 0, 0, 0, 0, 0, 0, 0, 0, 0, 0, 0, 0, 0, 0, 0, 0, 0, 0, 0, 0, 0, 0, 0, 0, 0, 0, 0, 0, 1]⟩

/-- lemmata/attr.every(lemmata/api.Prod) -/
def c185 : CFn := ⟨.seq (.region false [
  ⟨(some 3), .box (.t 1), none, 0⟩,
  ⟨(some 4), .mv (.k (.d (.b false))), none, 0⟩]) (
.seq (.region false [
  ⟨(some 5), .mv (.t 0), none, 0⟩,
  ⟨(some 6), .mkf 206 [] [(.t 3)] true, none, 0⟩,
  ⟨(some 7), .call 203 [(.t 5), (.t 6)] 4 true, none, 0⟩,
  ⟨(some 8), .un .not (.t 7), none, 0⟩,
  ⟨(some 4), .mv (.t 8), none, 0⟩]) (
.ret)), [.slot 4]⟩
def n185 : Notes := ⟨[], [0, 0, 0, 1]⟩

/-- lemmata/attr.May$1 -/
def c186 : CFn := ⟨.seq (.region false [
  ⟨(some 2), .box (.t 0), none, 0⟩,
  ⟨(some 3), .mv (.k (.d (.b false))), none, 0⟩]) (
.seq (.region false [
  ⟨(some 4), .ld true 3 (.t 1), none, 0⟩,
  ⟨(some 5), .ld true 3 (.t 2), none, 0⟩,
  ⟨(some 6), .call 187 [(.t 4), (.t 5)] 0 true, none, 0⟩,
  ⟨(some 3), .mv (.t 6), none, 0⟩]) (
.ret)), [.slot 3]⟩
def n186 : Notes := ⟨[], []⟩

/-- lemmata/attr.prod -/
def c187 : CFn := ⟨.seq (.region false [
  ⟨(some 2), .box (.t 0), none, 0⟩,
  ⟨(some 3), .box (.t 1), none, 0⟩,
  ⟨(some 4), .mv (.k (.d (.b false))), none, 0⟩]) (
.seq (.region false [
  ⟨(some 7), .ld true 3 (.t 2), none, 0⟩,
  ⟨(some 8), .ld true 3 (.t 3), none, 0⟩,
  ⟨(some 9), .call 207 [(.t 7), (.t 8)] 4 true, none, 0⟩,
  ⟨(some 5), .zero (.d .nm), none, 0⟩,
  ⟨none, .st 1 (.t 5) (.t 9), none, 0⟩]) (
.seq (.region false [
  ⟨(some 10), .fa 2 (.t 3), none, 0⟩,
  ⟨(some 11), .ld false 1 (.t 10), none, 0⟩,
  ⟨(some 12), .mkf 209 [] [(.t 5), (.t 3), (.t 2)] true, none, 0⟩,
  ⟨(some 13), .call 208 [(.t 11), (.t 12)] 4 true, none, 0⟩,
  ⟨(some 6), .mv (.t 13), none, 0⟩]) (
.seq (.region false [
  ⟨(some 14), .mv (.t 6), none, 0⟩,
  ⟨(some 15), .mv (.t 14), none, 0⟩,
  ⟨(some 16), .ld false 1 (.t 5), (some (15, true)), 0⟩,
  ⟨(some 17), .len 2 (.t 16), (some (15, true)), 0⟩,
  ⟨(some 18), .bin .eql (.t 17) (.k (.d (.i .i64 0))), (some (15, true)), 0⟩,
  ⟨(some 19), .pick (.t 15) (.t 18) (.k (.d (.b false))), none, 0⟩,
  ⟨(some 4), .mv (.t 19), none, 0⟩]) (
.ret)))), [.slot 4]⟩
def n187 : Notes := ⟨[], [0, 0, 0, 0, 0, 0, 0, 0, 0, 0, 1]⟩

/-- lemmata/lemmataplay.con -/
def c188 : CFn := ⟨.seq (.region false [
  ⟨(some 1), .box (.t 0), none, 0⟩,
  ⟨(some 2), .zero (.agg [(.d (.i .i64 0)), (.d (.i .i64 0)), (.d (.i .i64 0)), (.d (.s [])), (.nil 4), (.d (.i .i64 0)), (.d (.i .i64 0)), (.nil 8)]), none, 0⟩]) (
.seq (.region false [
  ⟨(some 3), .ld true 4 (.t 1), none, 0⟩,
  ⟨(some 4), .build [(.d (.i .i64 0)), (.d (.i .i64 0)), (.d (.i .i64 0)), (.d (.s [])), (.nil 4), (.d (.i .i64 0)), (.d (.i .i64 0)), (.nil 8)] [(0, 1, (.k (.d (.i .i64 0)))), (1, 4, (.t 3))], none, 0⟩,
  ⟨none, .st 8 (.t 2) (.t 4), none, 0⟩]) (
.ret)), [.cell 2 true 8]⟩
def n188 : Notes := ⟨[], []⟩

/-- lemmata/lemmataplay.ref -/
def c189 : CFn := ⟨.seq (.region false [
  ⟨(some 4), .zero (.agg [(.d (.i .i64 0)), (.d (.i .i64 0)), (.d (.i .i64 0)), (.d (.s [])), (.nil 4), (.d (.i .i64 0)), (.d (.i .i64 0)), (.nil 8)]), none, 0⟩]) (
.seq (.region false [
  ⟨(some 5), .mv (.t 0), none, 0⟩,
  ⟨(some 6), .mv (.t 1), none, 0⟩,
  ⟨(some 7), .build [(.d (.i .i64 0)), (.d (.i .i64 0)), (.d (.i .i64 0)), (.d (.s [])), (.nil 4), (.d (.i .i64 0)), (.d (.i .i64 0)), (.nil 8)] [(0, 1, (.k (.d (.i .i64 1)))), (5, 1, (.t 5)), (6, 1, (.t 6))], none, 0⟩,
  ⟨none, .st 8 (.t 4) (.t 7), none, 0⟩]) (
.ret)), [.cell 4 true 8]⟩
def n189 : Notes := ⟨[], []⟩

/-- lemmata/lemmataplay.tok -/
def c190 : CFn := ⟨.seq (.region false [
  ⟨(some 2), .zero (.agg [(.d (.b false)), (.d (.i .i64 0))]), none, 0⟩]) (
.seq (.region false [
  ⟨(some 3), .mv (.t 0), none, 0⟩,
  ⟨(some 4), .build [(.d (.b false)), (.d (.i .i64 0))] [(0, 1, (.k (.d (.b true)))), (1, 1, (.t 3))], none, 0⟩,
  ⟨none, .st 2 (.t 2) (.t 4), none, 0⟩]) (
.ret)), [.cell 2 true 2]⟩
def n190 : Notes := ⟨[], []⟩

/-- lemmata/local.once((2)int) -/
def c191 : CFn := ⟨.seq (.region false [
  ⟨(some 2), .mv (.k (.nil 2)), none, 0⟩]) (
.seq (.region false [
  ⟨(some 6), .mkm, none, 0⟩,
  ⟨(some 3), .mv (.t 6), none, 0⟩]) (
.seq (.seq (.region false [
  ⟨(some 7), .mv (.t 0), none, 0⟩,
  ⟨(some 8), .len 0 (.t 7), none, 0⟩,
  ⟨(some 9), .mv (.k (.d (.i .i64 0))), none, 0⟩]) (
.block 0 (.loop ⟨[2, 3, 7, 8, 9], [2], [], [], [], true⟩ (.seq (.region false [
  ⟨(some 10), .bin .lss (.t 9) (.t 8), none, 0⟩]) (
.seq (.cond (.t 10) (
.skip) (.exit 0)) (
.seq (.block 1 (.seq (.region false [
  ⟨(some 11), .ia 2 (.t 7) (.t 9), none, 0⟩,
  ⟨(some 12), .ld true 2 (.t 11), none, 0⟩,
  ⟨(some 5), .zero (.agg [(.d (.i .i64 0)), (.d (.i .i64 0))]), none, 0⟩,
  ⟨none, .st 2 (.t 5) (.t 12), none, 0⟩]) (
.seq (.seq (.region false [
  ⟨(some 13), .mv (.t 3), none, 0⟩,
  ⟨(some 14), .ld true 2 (.t 5), none, 0⟩,
  ⟨(some 15), .lk true [.i, .i] false (.d (.b false)) (.t 13) (.t 14), none, 0⟩,
  ⟨(some 16), .un .not (.t 15), none, 0⟩]) (
.cond (.t 16) (
.region false [
  ⟨(some 17), .mv (.t 2), none, 0⟩,
  ⟨(some 18), .ld true 2 (.t 5), none, 0⟩,
  ⟨(some 19), .bsl 2 1 [(.i .i64 0), (.i .i64 0)] [(0, (.t 18))], none, 0⟩,
  ⟨(some 20), .app 2 16 (.t 17) (.t 19), none, 0⟩,
  ⟨(some 2), .mv (.t 20), none, 0⟩]) (.skip))) (
.region false [
  ⟨(some 21), .mv (.t 3), none, 0⟩,
  ⟨(some 22), .ld true 2 (.t 5), none, 0⟩,
  ⟨none, .mu true [.i, .i] (.t 21) (.t 22) (.k (.d (.b true))), none, 0⟩])))) (
.region false [
  ⟨(some 23), .bin .add (.t 9) (.k (.d (.i .i64 1))), none, 0⟩,
  ⟨(some 9), .mv (.t 23), none, 0⟩]))))))) (
.seq (.region false [
  ⟨(some 24), .mv (.t 2), none, 0⟩,
  ⟨(some 2), .mv (.t 24), none, 0⟩]) (
.ret)))), [.slot 2]⟩
def n191 : Notes := ⟨[⟨[2, 3, 7, 8, 9], [2], [], [], [], true⟩], []⟩

/-- lemmata/expr.Refs -/
def c192 : CFn := ⟨.seq (.region false [
  ⟨(some 1), .box (.t 0), none, 0⟩,
  ⟨(some 2), .mv (.k (.nil 2)), none, 0⟩]) (
.seq (.seq (.region false [
  ⟨(some 5), .fa 0 (.t 1), none, 0⟩,
  ⟨(some 6), .ld false 1 (.t 5), none, 0⟩,
  ⟨(some 7), .bin .eql (.t 6) (.k (.d (.i .i64 1))), none, 0⟩]) (
.cond (.t 7) (
.region false [
  ⟨(some 8), .mv (.t 2), none, 0⟩,
  ⟨(some 9), .fa 5 (.t 1), none, 0⟩,
  ⟨(some 10), .ld false 1 (.t 9), none, 0⟩,
  ⟨(some 11), .fa 6 (.t 1), none, 0⟩,
  ⟨(some 12), .ld false 1 (.t 11), none, 0⟩,
  ⟨(some 13), .build [(.d (.i .i64 0)), (.d (.i .i64 0))] [(0, 1, (.t 10)), (1, 1, (.t 12))], none, 0⟩,
  ⟨(some 14), .bsl 2 1 [(.i .i64 0), (.i .i64 0)] [(0, (.t 13))], none, 0⟩,
  ⟨(some 15), .app 2 16 (.t 8) (.t 14), none, 0⟩,
  ⟨(some 2), .mv (.t 15), none, 0⟩]) (.skip))) (
.seq (.seq (.region false [
  ⟨(some 16), .fa 7 (.t 1), none, 0⟩,
  ⟨(some 17), .ld false 1 (.t 16), none, 0⟩,
  ⟨(some 18), .len 0 (.t 17), none, 0⟩,
  ⟨(some 19), .mv (.k (.d (.i .i64 0))), none, 0⟩]) (
.block 0 (.loop ⟨[2, 17, 18, 19], [2], [], [], [], true⟩ (.seq (.region false [
  ⟨(some 20), .bin .lss (.t 19) (.t 18), none, 0⟩]) (
.seq (.cond (.t 20) (
.skip) (.exit 0)) (
.seq (.block 1 (.seq (.region false [
  ⟨(some 21), .ia 8 (.t 17) (.t 19), none, 0⟩,
  ⟨(some 22), .ld true 8 (.t 21), none, 0⟩,
  ⟨(some 4), .zero (.agg [(.d (.i .i64 0)), (.d (.i .i64 0)), (.d (.i .i64 0)), (.d (.s [])), (.nil 4), (.d (.i .i64 0)), (.d (.i .i64 0)), (.nil 8)]), none, 0⟩,
  ⟨none, .st 8 (.t 4) (.t 22), none, 0⟩]) (
.region false [
  ⟨(some 23), .mv (.t 2), none, 0⟩,
  ⟨(some 24), .ld true 8 (.t 4), none, 0⟩,
  ⟨(some 25), .call 192 [(.t 24)] 0 true, none, 0⟩,
  ⟨(some 26), .app 2 16 (.t 23) (.t 25), none, 0⟩,
  ⟨(some 2), .mv (.t 26), none, 0⟩]))) (
.region false [
  ⟨(some 27), .bin .add (.t 19) (.k (.d (.i .i64 1))), none, 0⟩,
  ⟨(some 19), .mv (.t 27), none, 0⟩]))))))) (
.seq (.region false [
  ⟨(some 28), .mv (.t 2), none, 0⟩,
  ⟨(some 2), .mv (.t 28), none, 0⟩]) (
.ret)))), [.slot 2]⟩
def n192 : Notes := ⟨[⟨[2, 17, 18, 19], [2], [], [], [], true⟩], []⟩

/-- lemmata/attr.nt -/
def c197 : CFn := ⟨.seq (.region false [
  ⟨(some 2), .box (.t 0), none, 0⟩,
  ⟨(some 4), .zero (.agg [(.d (.s [])), (.nil 1), (.nil 1)]), none, 0⟩]) (
.seq (.seq (.region false [
  ⟨(some 5), .mv (.t 1), none, 0⟩,
  ⟨(some 6), .bin .geq (.t 5) (.k (.d (.i .i64 0))), none, 0⟩,
  ⟨(some 7), .mv (.t 6), none, 0⟩,
  ⟨(some 8), .mv (.t 1), (some (7, true)), 0⟩,
  ⟨(some 9), .fa 1 (.t 2), (some (7, true)), 0⟩,
  ⟨(some 10), .ld false 1 (.t 9), (some (7, true)), 0⟩,
  ⟨(some 11), .len 0 (.t 10), (some (7, true)), 0⟩,
  ⟨(some 12), .bin .lss (.t 8) (.t 11), (some (7, true)), 0⟩,
  ⟨(some 13), .pick (.t 7) (.t 12) (.k (.d (.b false))), none, 0⟩]) (
.cond (.t 13) (
.region false [
  ⟨(some 14), .fa 1 (.t 2), none, 0⟩,
  ⟨(some 15), .ld false 1 (.t 14), none, 0⟩,
  ⟨(some 16), .mv (.t 1), none, 0⟩,
  ⟨(some 17), .ia 3 (.t 15) (.t 16), none, 0⟩,
  ⟨(some 18), .ld true 3 (.t 17), none, 0⟩,
  ⟨none, .st 3 (.t 4) (.t 18), none, 0⟩]) (.skip))) (
.seq (.region false [
  ⟨(some 19), .ld true 3 (.t 4), none, 0⟩,
  ⟨none, .st 3 (.t 4) (.t 19), none, 0⟩]) (
.ret))), [.cell 4 true 3]⟩
def n197 : Notes := ⟨[], []⟩

/-- lemmata/gram.within(lemmata/api.Tok) -/
def c198 : CFn := ⟨.seq (.region false [
  ⟨(some 4), .mv (.k (.d (.b false))), none, 0⟩]) (
.seq (.region false [
  ⟨(some 5), .mv (.t 0), none, 0⟩,
  ⟨(some 6), .len 0 (.t 5), none, 0⟩,
  ⟨(some 7), .bin .geq (.t 6) (.k (.d (.i .i64 1))), none, 0⟩,
  ⟨(some 8), .mv (.t 7), none, 0⟩,
  ⟨(some 9), .mv (.t 0), (some (8, true)), 0⟩,
  ⟨(some 10), .len 0 (.t 9), (some (8, true)), 0⟩,
  ⟨(some 11), .mv (.t 1), (some (8, true)), 0⟩,
  ⟨(some 12), .bin .leq (.t 10) (.t 11), (some (8, true)), 0⟩,
  ⟨(some 13), .pick (.t 8) (.t 12) (.k (.d (.b false))), none, 0⟩,
  ⟨(some 4), .mv (.t 13), none, 0⟩]) (
.ret)), [.slot 4]⟩
def n198 : Notes := ⟨[], []⟩

/-- lemmata/gram.within(lemmata/api.Nt) -/
def c199 : CFn := ⟨.seq (.region false [
  ⟨(some 4), .mv (.k (.d (.b false))), none, 0⟩]) (
.seq (.region false [
  ⟨(some 5), .mv (.t 0), none, 0⟩,
  ⟨(some 6), .len 0 (.t 5), none, 0⟩,
  ⟨(some 7), .bin .geq (.t 6) (.k (.d (.i .i64 1))), none, 0⟩,
  ⟨(some 8), .mv (.t 7), none, 0⟩,
  ⟨(some 9), .mv (.t 0), (some (8, true)), 0⟩,
  ⟨(some 10), .len 0 (.t 9), (some (8, true)), 0⟩,
  ⟨(some 11), .mv (.t 1), (some (8, true)), 0⟩,
  ⟨(some 12), .bin .leq (.t 10) (.t 11), (some (8, true)), 0⟩,
  ⟨(some 13), .pick (.t 8) (.t 12) (.k (.d (.b false))), none, 0⟩,
  ⟨(some 4), .mv (.t 13), none, 0⟩]) (
.ret)), [.slot 4]⟩
def n199 : Notes := ⟨[], []⟩

/-- lemmata/gram.within(lemmata/api.Prod) -/
def c200 : CFn := ⟨.seq (.region false [
  ⟨(some 4), .mv (.k (.d (.b false))), none, 0⟩]) (
.seq (.region false [
  ⟨(some 5), .mv (.t 0), none, 0⟩,
  ⟨(some 6), .len 0 (.t 5), none, 0⟩,
  ⟨(some 7), .bin .geq (.t 6) (.k (.d (.i .i64 1))), none, 0⟩,
  ⟨(some 8), .mv (.t 7), none, 0⟩,
  ⟨(some 9), .mv (.t 0), (some (8, true)), 0⟩,
  ⟨(some 10), .len 0 (.t 9), (some (8, true)), 0⟩,
  ⟨(some 11), .mv (.t 1), (some (8, true)), 0⟩,
  ⟨(some 12), .bin .leq (.t 10) (.t 11), (some (8, true)), 0⟩,
  ⟨(some 13), .pick (.t 8) (.t 12) (.k (.d (.b false))), none, 0⟩,
  ⟨(some 4), .mv (.t 13), none, 0⟩]) (
.ret)), [.slot 4]⟩
def n200 : Notes := ⟨[], []⟩

/-- slices.Concat(()string,string) -/
def c201 : CFn := ⟨.seq (.region false [
  ⟨(some 2), .mv (.k (.nil 1)), none, 0⟩]) (
.seq (.region false [
  ⟨(some 3), .mv (.k (.d (.i .i64 0))), none, 0⟩]) (
.seq (.seq (.region false [
  ⟨(some 9), .mv (.t 0), none, 0⟩,
  ⟨(some 10), .len 0 (.t 9), none, 0⟩,
  ⟨(some 11), .mv (.k (.d (.i .i64 0))), none, 0⟩]) (
.block 0 (.loop ⟨[0, 3, 9, 10, 11], [], [], [], [], true⟩ (.seq (.region false [
  ⟨(some 12), .bin .lss (.t 11) (.t 10), none, 0⟩]) (
.seq (.cond (.t 12) (
.skip) (.exit 0)) (
.seq (.block 1 (.seq (.region false [
  ⟨(some 13), .ia 1 (.t 9) (.t 11), none, 0⟩,
  ⟨(some 14), .ld false 1 (.t 13), none, 0⟩,
  ⟨(some 5), .mv (.t 14), none, 0⟩]) (
.seq (.region false [
  ⟨(some 15), .mv (.t 3), none, 0⟩,
  ⟨(some 16), .mv (.t 5), none, 0⟩,
  ⟨(some 17), .len 0 (.t 16), none, 0⟩,
  ⟨(some 18), .bin .add (.t 15) (.t 17), none, 0⟩,
  ⟨(some 3), .mv (.t 18), none, 0⟩]) (
.seq (.region false [
  ⟨(some 19), .mv (.t 3), none, 0⟩,
  ⟨(some 20), .bin .lss (.t 19) (.k (.d (.i .i64 0))), none, 0⟩]) (
.cond (.t 20) (
.region false [
  ⟨(some 21), .die, none, 0⟩,
  ⟨none, .die, none, 0⟩]) (.skip)))))) (
.region false [
  ⟨(some 22), .bin .add (.t 11) (.k (.d (.i .i64 1))), none, 0⟩,
  ⟨(some 11), .mv (.t 22), none, 0⟩]))))))) (
.seq (.region false [
  ⟨(some 23), .mv (.t 3), none, 0⟩,
  ⟨(some 24), .callr 216 [(.k (.nil 1)), (.t 23)] 4, none, 0⟩,
  ⟨(some 6), .mv (.t 24), none, 0⟩]) (
.seq (.seq (.region false [
  ⟨(some 25), .mv (.t 0), none, 0⟩,
  ⟨(some 26), .len 0 (.t 25), none, 0⟩,
  ⟨(some 27), .mv (.k (.d (.i .i64 0))), none, 0⟩]) (
.block 2 (.loop ⟨[6, 25, 26, 27], [6], [], [], [], true⟩ (.seq (.region false [
  ⟨(some 28), .bin .lss (.t 27) (.t 26), none, 0⟩]) (
.seq (.cond (.t 28) (
.skip) (.exit 2)) (
.seq (.block 3 (.seq (.region false [
  ⟨(some 29), .ia 1 (.t 25) (.t 27), none, 0⟩,
  ⟨(some 30), .ld false 1 (.t 29), none, 0⟩,
  ⟨(some 8), .mv (.t 30), none, 0⟩]) (
.region false [
  ⟨(some 31), .mv (.t 6), none, 0⟩,
  ⟨(some 32), .mv (.t 8), none, 0⟩,
  ⟨(some 33), .apa 1 16 (.t 31) (.t 32), none, 0⟩,
  ⟨(some 6), .mv (.t 33), none, 0⟩]))) (
.region false [
  ⟨(some 34), .bin .add (.t 27) (.k (.d (.i .i64 1))), none, 0⟩,
  ⟨(some 27), .mv (.t 34), none, 0⟩]))))))) (
.seq (.region false [
  ⟨(some 35), .mv (.t 6), none, 0⟩,
  ⟨(some 2), .mv (.t 35), none, 0⟩]) (
.ret)))))), [.slot 2]⟩
def n201 : Notes := ⟨[⟨[0, 3, 9, 10, 11], [], [], [], [], true⟩, ⟨[6, 25, 26, 27], [6], [], [], [], true⟩], [0, 0, 0, 0, 0, 0, 0, 0, 0, 0, 0, 0, 0, 0, 0, 0, 0, 0, 0, 0, 0, 3, 0, 0, 0, 0, 0, 0, 0, 0, 0, 0, 1]⟩

/-- lemmata/gram.names -/
def c202 : CFn := ⟨.seq (.region false [
  ⟨(some 2), .mv (.k (.d (.b false))), none, 0⟩]) (
.seq (.region false [
  ⟨(some 3), .mv (.t 0), none, 0⟩,
  ⟨(some 4), .call 217 [(.t 3)] 0 true, none, 0⟩,
  ⟨(some 5), .mv (.t 4), none, 0⟩,
  ⟨(some 6), .mv (.t 0), (some (5, true)), 0⟩,
  ⟨(some 7), .call 218 [(.t 6), (.k (.d (.f 219 [] [])))] 4 true, (some (5, true)), 0⟩,
  ⟨(some 8), .un .not (.t 7), (some (5, true)), 0⟩,
  ⟨(some 9), .pick (.t 5) (.t 8) (.k (.d (.b false))), none, 0⟩,
  ⟨(some 2), .mv (.t 9), none, 0⟩]) (
.ret)), [.slot 2]⟩
def n202 : Notes := ⟨[], []⟩

/-- slices.ContainsFunc(()lemmata/api.Prod,lemmata/api.Prod) -/
def c203 : CFn := ⟨.seq (.region false [
  ⟨(some 4), .mv (.k (.d (.b false))), none, 0⟩]) (
.seq (.region false [
  ⟨(some 5), .mv (.t 0), none, 0⟩,
  ⟨(some 6), .mv (.t 1), none, 0⟩,
  ⟨(some 7), .call 221 [(.t 5), (.t 6)] 4 true, none, 0⟩,
  ⟨(some 8), .bin .geq (.t 7) (.k (.d (.i .i64 0))), none, 0⟩,
  ⟨(some 4), .mv (.t 8), none, 0⟩]) (
.ret)), [.slot 4]⟩
def n203 : Notes := ⟨[], []⟩

/-- lemmata/gram.May$1 -/
def c204 : CFn := ⟨.seq (.region false [
  ⟨(some 2), .box (.t 0), none, 0⟩,
  ⟨(some 3), .mv (.k (.d (.b false))), none, 0⟩]) (
.seq (.region false [
  ⟨(some 4), .ld true 3 (.t 1), none, 0⟩,
  ⟨(some 5), .ld true 3 (.t 2), none, 0⟩,
  ⟨(some 6), .call 205 [(.t 4), (.t 5)] 0 true, none, 0⟩,
  ⟨(some 7), .un .not (.t 6), none, 0⟩,
  ⟨(some 3), .mv (.t 7), none, 0⟩]) (
.ret)), [.slot 3]⟩
def n204 : Notes := ⟨[], []⟩

/-- lemmata/gram.prod -/
def c205 : CFn := ⟨.seq (.region false [
  ⟨(some 2), .box (.t 0), none, 0⟩,
  ⟨(some 3), .box (.t 1), none, 0⟩,
  ⟨(some 4), .mv (.k (.d (.b false))), none, 0⟩]) (
.seq (.region false [
  ⟨(some 5), .fa 0 (.t 3), none, 0⟩,
  ⟨(some 6), .ld false 1 (.t 5), none, 0⟩,
  ⟨(some 7), .bin .geq (.t 6) (.k (.d (.i .i64 0))), none, 0⟩,
  ⟨(some 8), .mv (.t 7), none, 0⟩,
  ⟨(some 9), .fa 0 (.t 3), (some (8, true)), 0⟩,
  ⟨(some 10), .ld false 1 (.t 9), (some (8, true)), 0⟩,
  ⟨(some 11), .fa 1 (.t 2), (some (8, true)), 0⟩,
  ⟨(some 12), .ld false 1 (.t 11), (some (8, true)), 0⟩,
  ⟨(some 13), .len 0 (.t 12), (some (8, true)), 0⟩,
  ⟨(some 14), .bin .lss (.t 10) (.t 13), (some (8, true)), 0⟩,
  ⟨(some 15), .pick (.t 8) (.t 14) (.k (.d (.b false))), none, 0⟩,
  ⟨(some 16), .mv (.t 15), none, 0⟩,
  ⟨(some 17), .fa 1 (.t 3), (some (16, true)), 0⟩,
  ⟨(some 18), .ld false 1 (.t 17), (some (16, true)), 0⟩,
  ⟨(some 19), .len 0 (.t 18), (some (16, true)), 0⟩,
  ⟨(some 20), .bin .leq (.t 19) (.k (.d (.i .i64 5))), (some (16, true)), 0⟩,
  ⟨(some 21), .pick (.t 16) (.t 20) (.k (.d (.b false))), none, 0⟩,
  ⟨(some 22), .mv (.t 21), none, 0⟩,
  ⟨(some 23), .fa 1 (.t 3), (some (22, true)), 0⟩,
  ⟨(some 24), .ld false 1 (.t 23), (some (22, true)), 0⟩,
  ⟨(some 25), .mkf 223 [] [(.t 2)] true, (some (22, true)), 0⟩,
  ⟨(some 26), .call 222 [(.t 24), (.t 25)] 4 true, (some (22, true)), 0⟩,
  ⟨(some 27), .un .not (.t 26), (some (22, true)), 0⟩,
  ⟨(some 28), .pick (.t 22) (.t 27) (.k (.d (.b false))), none, 0⟩,
  ⟨(some 4), .mv (.t 28), none, 0⟩]) (
.ret)), [.slot 4]⟩
def n205 : Notes := ⟨[], [0, 0, 0, 0, 0, 0, 0, 0, 0, 0, 0, 0, 0, 0, 0, 0, 0, 0, 0, 0, 0, 0, 0, 1]⟩

/-- lemmata/attr.every(lemmata/api.Prod)$1 -/
def c206 : CFn := ⟨.seq (.region false [
  ⟨(some 2), .box (.t 0), none, 0⟩,
  ⟨(some 3), .mv (.k (.d (.b false))), none, 0⟩]) (
.seq (.region false [
  ⟨(some 4), .ld false 1 (.t 1), none, 0⟩,
  ⟨(some 5), .ld true 3 (.t 2), none, 0⟩,
  ⟨(some 6), .callv (.t 4) [(.t 5)] 4 true, none, 0⟩,
  ⟨(some 7), .un .not (.t 6), none, 0⟩,
  ⟨(some 3), .mv (.t 7), none, 0⟩]) (
.ret)), [.slot 3]⟩
def n206 : Notes := ⟨[], []⟩

/-- lemmata/attr.wants -/
def c207 : CFn := ⟨.seq (.region false [
  ⟨(some 2), .box (.t 0), none, 0⟩,
  ⟨(some 3), .box (.t 1), none, 0⟩,
  ⟨(some 4), .mv (.k (.d .nm)), none, 0⟩]) (
.seq (.region false [
  ⟨(some 13), .mkm, none, 0⟩,
  ⟨(some 5), .mv (.t 13), none, 0⟩]) (
.seq (.seq (.region false [
  ⟨(some 14), .fa 1 (.t 3), none, 0⟩,
  ⟨(some 15), .ld false 1 (.t 14), none, 0⟩,
  ⟨(some 16), .len 0 (.t 15), none, 0⟩,
  ⟨(some 17), .bin .add (.t 16) (.k (.d (.i .i64 1))), none, 0⟩,
  ⟨(some 18), .mv (.k (.d (.i .i64 0))), none, 0⟩]) (
.block 0 (.loop ⟨[2, 3, 5, 17, 18], [], [], [], [], true⟩ (.seq (.region false [
  ⟨(some 19), .bin .lss (.t 18) (.t 17), none, 0⟩]) (
.seq (.cond (.t 19) (
.skip) (.exit 0)) (
.seq (.block 1 (.seq (.region false [
  ⟨(some 20), .mv (.t 18), none, 0⟩,
  ⟨(some 6), .mv (.t 20), none, 0⟩]) (
.seq (.region false [
  ⟨(some 22), .ld true 3 (.t 3), none, 0⟩,
  ⟨(some 23), .mv (.t 6), none, 0⟩,
  ⟨(some 24), .call 225 [(.t 22), (.t 23)] 0 true, none, 0⟩,
  ⟨(some 21), .mv (.t 24), none, 0⟩,
  ⟨(some 25), .ext (.t 21) 0, none, 0⟩,
  ⟨(some 26), .ext (.t 21) 1, none, 0⟩,
  ⟨(some 7), .mv (.t 25), none, 0⟩,
  ⟨(some 8), .mv (.t 26), none, 0⟩]) (
.seq (.region false [
  ⟨(some 27), .ld true 3 (.t 2), none, 0⟩,
  ⟨(some 28), .mv (.t 7), none, 0⟩,
  ⟨(some 29), .call 181 [(.t 27), (.t 28)] 0 true, none, 0⟩,
  ⟨(some 30), .mv (.k (.d (.i .i64 0))), none, 0⟩]) (
.block 2 (.loop ⟨[2, 3, 5, 6, 17, 18, 29, 30], [], [], [], [], true⟩ (.seq (.region false [
  ⟨(some 31), .bin .lss (.t 30) (.t 29), none, 0⟩]) (
.seq (.cond (.t 31) (
.skip) (.exit 2)) (
.seq (.block 3 (.seq (.region false [
  ⟨(some 32), .mv (.t 30), none, 0⟩,
  ⟨(some 9), .mv (.t 32), none, 0⟩]) (
.seq (.region false [
  ⟨(some 33), .mv (.t 6), none, 0⟩,
  ⟨(some 34), .mv (.t 9), none, 0⟩,
  ⟨(some 35), .build [(.d (.i .i64 0)), (.d (.i .i64 0))] [(0, 1, (.t 33)), (1, 1, (.t 34))], none, 0⟩,
  ⟨(some 10), .zero (.agg [(.d (.i .i64 0)), (.d (.i .i64 0))]), none, 0⟩,
  ⟨none, .st 2 (.t 10) (.t 35), none, 0⟩]) (
.seq (.region false [
  ⟨(some 37), .ld true 3 (.t 3), none, 0⟩,
  ⟨(some 38), .mv (.t 6), none, 0⟩,
  ⟨(some 39), .call 225 [(.t 37), (.t 38)] 0 true, none, 0⟩,
  ⟨(some 36), .mv (.t 39), none, 0⟩,
  ⟨(some 40), .ext (.t 36) 0, none, 0⟩,
  ⟨(some 41), .ext (.t 36) 1, none, 0⟩,
  ⟨(some 11), .mv (.t 40), none, 0⟩,
  ⟨(some 12), .mv (.t 41), none, 0⟩]) (
.seq (.region false [
  ⟨(some 42), .mv (.t 12), none, 0⟩,
  ⟨(some 43), .mv (.t 42), none, 0⟩,
  ⟨(some 44), .ld true 3 (.t 2), (some (43, true)), 0⟩,
  ⟨(some 45), .ld true 3 (.t 3), (some (43, true)), 0⟩,
  ⟨(some 46), .ld true 2 (.t 10), (some (43, true)), 0⟩,
  ⟨(some 47), .call 214 [(.t 44), (.t 45), (.t 46)] 0 true, (some (43, true)), 0⟩,
  ⟨(some 48), .un .not (.t 47), (some (43, true)), 0⟩,
  ⟨(some 49), .pick (.t 43) (.t 48) (.k (.d (.b false))), none, 0⟩]) (
.cond (.t 49) (
.region false [
  ⟨(some 50), .mv (.t 5), none, 0⟩,
  ⟨(some 51), .ld true 2 (.t 10), none, 0⟩,
  ⟨none, .mu true [.i, .i] (.t 50) (.t 51) (.k (.d (.b true))), none, 0⟩]) (.skip))))))) (
.region false [
  ⟨(some 52), .bin .add (.t 30) (.k (.d (.i .i64 1))), none, 0⟩,
  ⟨(some 30), .mv (.t 52), none, 0⟩])))))))))) (
.region false [
  ⟨(some 53), .bin .add (.t 18) (.k (.d (.i .i64 1))), none, 0⟩,
  ⟨(some 18), .mv (.t 53), none, 0⟩]))))))) (
.seq (.region false [
  ⟨(some 54), .mv (.t 5), none, 0⟩,
  ⟨(some 4), .mv (.t 54), none, 0⟩]) (
.ret)))), [.slot 4]⟩
def n207 : Notes := ⟨[⟨[2, 3, 5, 17, 18], [], [], [], [], true⟩, ⟨[2, 3, 5, 6, 17, 18, 29, 30], [], [], [], [], true⟩], []⟩

/-- lemmata/attr.every(lemmata/api.Rule) -/
def c208 : CFn := ⟨.seq (.region false [
  ⟨(some 3), .box (.t 1), none, 0⟩,
  ⟨(some 4), .mv (.k (.d (.b false))), none, 0⟩]) (
.seq (.region false [
  ⟨(some 5), .mv (.t 0), none, 0⟩,
  ⟨(some 6), .mkf 227 [] [(.t 3)] true, none, 0⟩,
  ⟨(some 7), .call 226 [(.t 5), (.t 6)] 4 true, none, 0⟩,
  ⟨(some 8), .un .not (.t 7), none, 0⟩,
  ⟨(some 4), .mv (.t 8), none, 0⟩]) (
.ret)), [.slot 4]⟩
def n208 : Notes := ⟨[], [0, 0, 0, 1]⟩

/-- lemmata/attr.prod$1 -/
def c209 : CFn := ⟨.seq (.region false [
  ⟨(some 4), .box (.t 0), none, 0⟩,
  ⟨(some 5), .mv (.k (.d (.b false))), none, 0⟩]) (
.seq (.region false [
  ⟨(some 8), .fa 0 (.t 4), none, 0⟩,
  ⟨(some 9), .ld false 1 (.t 8), none, 0⟩,
  ⟨(some 10), .fa 1 (.t 4), none, 0⟩,
  ⟨(some 11), .ld false 1 (.t 10), none, 0⟩,
  ⟨(some 12), .build [(.d (.i .i64 0)), (.d (.i .i64 0))] [(0, 1, (.t 9)), (1, 1, (.t 11))], none, 0⟩,
  ⟨(some 6), .zero (.agg [(.d (.i .i64 0)), (.d (.i .i64 0))]), none, 0⟩,
  ⟨none, .st 2 (.t 6) (.t 12), none, 0⟩]) (
.seq (.region false [
  ⟨(some 13), .ld false 1 (.t 1), none, 0⟩,
  ⟨(some 14), .ld true 2 (.t 6), none, 0⟩,
  ⟨(some 15), .lk true [.i, .i] false (.d (.b false)) (.t 13) (.t 14), none, 0⟩,
  ⟨(some 7), .mv (.t 15), none, 0⟩]) (
.seq (.region false [
  ⟨(some 16), .ld false 1 (.t 1), none, 0⟩,
  ⟨(some 17), .ld true 2 (.t 6), none, 0⟩,
  ⟨none, .del true [.i, .i] (.t 16) (.t 17), none, 0⟩]) (
.seq (.region false [
  ⟨(some 18), .mv (.t 7), none, 0⟩,
  ⟨(some 19), .mv (.t 18), none, 0⟩,
  ⟨(some 20), .fa 2 (.t 4), (some (19, true)), 0⟩,
  ⟨(some 21), .ld true 8 (.t 20), (some (19, true)), 0⟩,
  ⟨(some 22), .call 210 [(.t 21)] 0 true, (some (19, true)), 0⟩,
  ⟨(some 23), .pick (.t 19) (.t 22) (.k (.d (.b false))), none, 0⟩,
  ⟨(some 24), .mv (.t 23), none, 0⟩,
  ⟨(some 25), .ld true 3 (.t 2), (some (24, true)), 0⟩,
  ⟨(some 26), .fa 2 (.t 4), (some (24, true)), 0⟩,
  ⟨(some 27), .ld true 8 (.t 26), (some (24, true)), 0⟩,
  ⟨(some 28), .call 211 [(.t 25), (.t 27)] 0 true, (some (24, true)), 0⟩,
  ⟨(some 29), .pick (.t 24) (.t 28) (.k (.d (.b false))), none, 0⟩,
  ⟨(some 30), .mv (.t 29), none, 0⟩,
  ⟨(some 31), .fa 2 (.t 4), (some (30, true)), 0⟩,
  ⟨(some 32), .ld true 8 (.t 31), (some (30, true)), 0⟩,
  ⟨(some 33), .call 192 [(.t 32)] 0 true, (some (30, true)), 0⟩,
  ⟨(some 34), .mkf 213 [] [(.t 3), (.t 2)] true, (some (30, true)), 0⟩,
  ⟨(some 35), .call 212 [(.t 33), (.t 34)] 4 true, (some (30, true)), 0⟩,
  ⟨(some 36), .pick (.t 30) (.t 35) (.k (.d (.b false))), none, 0⟩,
  ⟨(some 5), .mv (.t 36), none, 0⟩]) (
.ret))))), [.slot 5]⟩
def n209 : Notes := ⟨[], [0, 0, 0, 0, 0, 0, 0, 0, 0, 0, 0, 0, 0, 0, 0, 0, 0, 0, 0, 0, 0, 0, 0, 0, 0, 0, 0, 0, 0, 0, 0, 0, 1]⟩

/-- lemmata/expr.May -/
def c210 : CFn := ⟨.seq (.region false [
  ⟨(some 1), .box (.t 0), none, 0⟩,
  ⟨(some 2), .mv (.k (.d (.b false))), none, 0⟩]) (
.seq (.region false [
  ⟨(some 3), .ld true 8 (.t 1), none, 0⟩,
  ⟨(some 4), .call 228 [(.t 3), (.k (.d (.i .i64 12)))] 0 true, none, 0⟩,
  ⟨(some 2), .mv (.t 4), none, 0⟩]) (
.ret)), [.slot 2]⟩
def n210 : Notes := ⟨[], []⟩

/-- lemmata/attr.texts -/
def c211 : CFn := ⟨.seq (.region false [
  ⟨(some 2), .box (.t 0), none, 0⟩,
  ⟨(some 3), .box (.t 1), none, 0⟩,
  ⟨(some 4), .mv (.k (.d (.b false))), none, 0⟩]) (
.seq (.seq (.region false [
  ⟨(some 5), .fa 0 (.t 3), none, 0⟩,
  ⟨(some 6), .ld false 1 (.t 5), none, 0⟩,
  ⟨(some 7), .bin .eql (.t 6) (.k (.d (.i .i64 2))), none, 0⟩,
  ⟨(some 8), .mv (.t 7), none, 0⟩,
  ⟨(some 9), .fa 0 (.t 3), (some (8, false)), 0⟩,
  ⟨(some 10), .ld false 1 (.t 9), (some (8, false)), 0⟩,
  ⟨(some 11), .bin .eql (.t 10) (.k (.d (.i .i64 3))), (some (8, false)), 0⟩,
  ⟨(some 12), .pick (.t 8) (.k (.d (.b true))) (.t 11), none, 0⟩,
  ⟨(some 13), .mv (.t 12), none, 0⟩,
  ⟨(some 14), .fa 5 (.t 3), (some (13, true)), 0⟩,
  ⟨(some 15), .ld false 1 (.t 14), (some (13, true)), 0⟩,
  ⟨(some 16), .bin .lss (.t 15) (.k (.d (.i .i64 1))), (some (13, true)), 0⟩,
  ⟨(some 17), .mv (.t 16), (some (13, true)), 0⟩,
  ⟨(some 18), .fa 5 (.t 3), (some (17, false)), 0⟩,
  ⟨(some 19), .ld false 1 (.t 18), (some (17, false)), 0⟩,
  ⟨(some 20), .fa 1 (.t 2), (some (17, false)), 0⟩,
  ⟨(some 21), .ld false 1 (.t 20), (some (17, false)), 0⟩,
  ⟨(some 22), .len 0 (.t 21), (some (17, false)), 0⟩,
  ⟨(some 23), .bin .gtr (.t 19) (.t 22), (some (17, false)), 0⟩,
  ⟨(some 24), .pick (.t 17) (.k (.d (.b true))) (.t 23), (some (13, true)), 0⟩,
  ⟨(some 25), .mv (.t 24), (some (13, true)), 0⟩,
  ⟨(some 26), .fa 1 (.t 2), (some (25, false)), 0⟩,
  ⟨(some 27), .ld false 1 (.t 26), (some (25, false)), 0⟩,
  ⟨(some 28), .fa 5 (.t 3), (some (25, false)), 0⟩,
  ⟨(some 29), .ld false 1 (.t 28), (some (25, false)), 0⟩,
  ⟨(some 30), .bin .sub (.t 29) (.k (.d (.i .i64 1))), (some (25, false)), 0⟩,
  ⟨(some 31), .ia 2 (.t 27) (.t 30), (some (25, false)), 0⟩,
  ⟨(some 32), .fa 0 (.t 31), (some (25, false)), 0⟩,
  ⟨(some 33), .ld false 1 (.t 32), (some (25, false)), 0⟩,
  ⟨(some 34), .un .not (.t 33), (some (25, false)), 0⟩,
  ⟨(some 35), .pick (.t 25) (.k (.d (.b true))) (.t 34), (some (13, true)), 0⟩,
  ⟨(some 36), .pick (.t 13) (.t 35) (.k (.d (.b false))), none, 0⟩]) (
.cond (.t 36) (
.seq (.region false [
  ⟨(some 4), .mv (.k (.d (.b false))), none, 0⟩]) (
.ret)) (.skip))) (
.seq (.region false [
  ⟨(some 37), .fa 7 (.t 3), none, 0⟩,
  ⟨(some 38), .ld false 1 (.t 37), none, 0⟩,
  ⟨(some 39), .mkf 230 [] [(.t 2)] true, none, 0⟩,
  ⟨(some 40), .call 229 [(.t 38), (.t 39)] 4 true, none, 0⟩,
  ⟨(some 41), .un .not (.t 40), none, 0⟩,
  ⟨(some 4), .mv (.t 41), none, 0⟩]) (
.ret))), [.slot 4]⟩
def n211 : Notes := ⟨[], [0, 0, 0, 0, 0, 0, 0, 0, 0, 0, 0, 0, 0, 0, 0, 0, 0, 0, 0, 0, 0, 0, 0, 0, 0, 0, 0, 0, 0, 0, 0, 0, 0, 0, 0, 0, 0, 0, 1]⟩

/-- lemmata/attr.every((2)int) -/
def c212 : CFn := ⟨.seq (.region false [
  ⟨(some 3), .box (.t 1), none, 0⟩,
  ⟨(some 4), .mv (.k (.d (.b false))), none, 0⟩]) (
.seq (.region false [
  ⟨(some 5), .mv (.t 0), none, 0⟩,
  ⟨(some 6), .mkf 232 [] [(.t 3)] true, none, 0⟩,
  ⟨(some 7), .call 231 [(.t 5), (.t 6)] 4 true, none, 0⟩,
  ⟨(some 8), .un .not (.t 7), none, 0⟩,
  ⟨(some 4), .mv (.t 8), none, 0⟩]) (
.ret)), [.slot 4]⟩
def n212 : Notes := ⟨[], [0, 0, 0, 1]⟩

/-- lemmata/attr.prod$1$1 -/
def c213 : CFn := ⟨.seq (.region false [
  ⟨(some 3), .box (.t 0), none, 0⟩,
  ⟨(some 4), .mv (.k (.d (.b false))), none, 0⟩]) (
.seq (.region false [
  ⟨(some 5), .ld true 3 (.t 1), none, 0⟩,
  ⟨(some 6), .ld true 3 (.t 2), none, 0⟩,
  ⟨(some 7), .ld true 2 (.t 3), none, 0⟩,
  ⟨(some 8), .call 214 [(.t 5), (.t 6), (.t 7)] 0 true, none, 0⟩,
  ⟨(some 4), .mv (.t 8), none, 0⟩]) (
.ret)), [.slot 4]⟩
def n213 : Notes := ⟨[], []⟩

/-- lemmata/attr.in -/
def c214 : CFn := ⟨.seq (.region false [
  ⟨(some 3), .box (.t 0), none, 0⟩,
  ⟨(some 4), .box (.t 1), none, 0⟩,
  ⟨(some 5), .box (.t 2), none, 0⟩,
  ⟨(some 6), .mv (.k (.d (.b false))), none, 0⟩]) (
.seq (.region false [
  ⟨(some 10), .ld true 3 (.t 4), none, 0⟩,
  ⟨(some 11), .iaa 2 1 (.t 5) (.k (.d (.i .i64 0))), none, 0⟩,
  ⟨(some 12), .ld false 1 (.t 11), none, 0⟩,
  ⟨(some 13), .call 225 [(.t 10), (.t 12)] 0 true, none, 0⟩,
  ⟨(some 9), .mv (.t 13), none, 0⟩,
  ⟨(some 14), .ext (.t 9) 0, none, 0⟩,
  ⟨(some 15), .ext (.t 9) 1, none, 0⟩,
  ⟨(some 7), .mv (.t 14), none, 0⟩,
  ⟨(some 8), .mv (.t 15), none, 0⟩]) (
.seq (.region true [
  ⟨(some 16), .mv (.t 8), none, 0⟩,
  ⟨(some 17), .mv (.t 16), none, 1⟩,
  ⟨(some 18), .iaa 2 1 (.t 5) (.k (.d (.i .i64 1))), (some (17, true)), 3⟩,
  ⟨(some 19), .ld false 1 (.t 18), (some (17, true)), 7⟩,
  ⟨(some 20), .bin .geq (.t 19) (.k (.d (.i .i64 0))), (some (17, true)), 15⟩,
  ⟨(some 21), .pick (.t 17) (.t 20) (.k (.d (.b false))), none, 31⟩,
  ⟨(some 22), .mv (.t 21), none, 63⟩,
  ⟨(some 23), .iaa 2 1 (.t 5) (.k (.d (.i .i64 1))), (some (22, true)), 127⟩,
  ⟨(some 24), .ld false 1 (.t 23), (some (22, true)), 255⟩,
  ⟨(some 25), .ld true 3 (.t 3), (some (22, true)), 127⟩,
  ⟨(some 26), .mv (.t 7), (some (22, true)), 127⟩,
  ⟨(some 27), .call 181 [(.t 25), (.t 26)] 0 true, (some (22, true)), 1663⟩,
  ⟨(some 28), .bin .lss (.t 24) (.t 27), (some (22, true)), 4095⟩,
  ⟨(some 29), .pick (.t 22) (.t 28) (.k (.d (.b false))), none, 8191⟩,
  ⟨(some 30), .mv (.t 29), none, 16383⟩,
  ⟨(some 31), .ld true 3 (.t 3), (some (30, true)), 32767⟩,
  ⟨(some 32), .mv (.t 7), (some (30, true)), 32767⟩,
  ⟨(some 33), .iaa 2 1 (.t 5) (.k (.d (.i .i64 1))), (some (30, true)), 32767⟩,
  ⟨(some 34), .ld false 1 (.t 33), (some (30, true)), 163839⟩,
  ⟨(some 35), .call 182 [(.t 31), (.t 32), (.t 34)] 0 true, (some (30, true)), 524287⟩,
  ⟨(some 36), .iaa 2 1 (.t 5) (.k (.d (.i .i64 0))), (some (30, true)), 32767⟩,
  ⟨(some 37), .ld false 1 (.t 36), (some (30, true)), 1081343⟩,
  ⟨(some 38), .bin .eql (.t 37) (.k (.d (.i .i64 0))), (some (30, true)), 3178495⟩,
  ⟨(some 39), .eqb false (.t 35) (.t 38), (some (30, true)), 8388607⟩,
  ⟨(some 40), .pick (.t 30) (.t 39) (.k (.d (.b false))), none, 16777215⟩,
  ⟨(some 6), .mv (.t 40), none, 33554431⟩]) (
.ret))), [.slot 6]⟩
def n214 : Notes := ⟨[], []⟩

/-- slices.Grow(()string,string) -/
def c216 : CFn := ⟨.seq (.region false [
  ⟨(some 4), .mv (.k (.nil 1)), none, 0⟩]) (
.seq (.seq (.region false [
  ⟨(some 5), .mv (.t 1), none, 0⟩,
  ⟨(some 6), .bin .lss (.t 5) (.k (.d (.i .i64 0))), none, 0⟩]) (
.cond (.t 6) (
.region false [
  ⟨(some 7), .die, none, 0⟩,
  ⟨none, .die, none, 0⟩]) (.skip))) (
.seq (.seq (.region false [
  ⟨(some 8), .mv (.t 1), none, 0⟩,
  ⟨(some 9), .mv (.t 0), none, 0⟩,
  ⟨(some 10), .capn (.t 9), none, 0⟩,
  ⟨(some 11), .mv (.t 0), none, 0⟩,
  ⟨(some 12), .len 0 (.t 11), none, 0⟩,
  ⟨(some 13), .bin .sub (.t 10) (.t 12), none, 0⟩,
  ⟨(some 14), .bin .sub (.t 8) (.t 13), none, 0⟩,
  ⟨(some 1), .mv (.t 14), none, 0⟩]) (
.seq (.region false [
  ⟨(some 15), .mv (.t 1), none, 0⟩,
  ⟨(some 16), .bin .gtr (.t 15) (.k (.d (.i .i64 0))), none, 0⟩]) (
.cond (.t 16) (
.region false [
  ⟨(some 17), .mv (.t 0), none, 0⟩,
  ⟨(some 18), .mv (.t 0), none, 0⟩,
  ⟨(some 19), .capn (.t 18), none, 0⟩,
  ⟨(some 20), .slc 1 (.t 17) none (some (.t 19)), none, 0⟩,
  ⟨(some 21), .mv (.t 1), none, 0⟩,
  ⟨(some 22), .apz 1 16 [(.s [])] (.t 20) (.t 21), none, 0⟩,
  ⟨(some 23), .mv (.t 0), none, 0⟩,
  ⟨(some 24), .len 0 (.t 23), none, 0⟩,
  ⟨(some 25), .slc 1 (.t 22) none (some (.t 24)), none, 0⟩,
  ⟨(some 0), .mv (.t 25), none, 0⟩]) (.skip)))) (
.seq (.region false [
  ⟨(some 26), .mv (.t 0), none, 0⟩,
  ⟨(some 4), .mv (.t 26), none, 0⟩]) (
.ret)))), [.slot 4]⟩
def n216 : Notes := ⟨[], [0, 0, 0, 0, 0, 0, 0, 0, 0, 0, 0, 0, 0, 0, 0, 0, 0, 0, 0, 0, 1]⟩

/-- lemmata/gram.unlike(string) -/
def c217 : CFn := ⟨.seq (.region false [
  ⟨(some 2), .mv (.k (.d (.b false))), none, 0⟩]) (
.seq (.region false [
  ⟨(some 6), .mkm, none, 0⟩,
  ⟨(some 3), .mv (.t 6), none, 0⟩]) (
.seq (.seq (.region false [
  ⟨(some 7), .mv (.t 0), none, 0⟩,
  ⟨(some 8), .len 0 (.t 7), none, 0⟩,
  ⟨(some 9), .mv (.k (.d (.i .i64 0))), none, 0⟩]) (
.block 0 (.loop ⟨[3, 7, 8, 9], [], [], [], [], true⟩ (.seq (.region false [
  ⟨(some 10), .bin .lss (.t 9) (.t 8), none, 0⟩]) (
.seq (.cond (.t 10) (
.skip) (.exit 0)) (
.seq (.block 1 (.seq (.region false [
  ⟨(some 11), .ia 1 (.t 7) (.t 9), none, 0⟩,
  ⟨(some 12), .ld false 1 (.t 11), none, 0⟩,
  ⟨(some 5), .mv (.t 12), none, 0⟩]) (
.seq (.seq (.region false [
  ⟨(some 13), .mv (.t 3), none, 0⟩,
  ⟨(some 14), .mv (.t 5), none, 0⟩,
  ⟨(some 15), .lk false [.s] false (.d (.b false)) (.t 13) (.t 14), none, 0⟩]) (
.cond (.t 15) (
.seq (.region false [
  ⟨(some 2), .mv (.k (.d (.b false))), none, 0⟩]) (
.ret)) (.skip))) (
.region false [
  ⟨(some 16), .mv (.t 3), none, 0⟩,
  ⟨(some 17), .mv (.t 5), none, 0⟩,
  ⟨none, .mu false [.s] (.t 16) (.t 17) (.k (.d (.b true))), none, 0⟩])))) (
.region false [
  ⟨(some 18), .bin .add (.t 9) (.k (.d (.i .i64 1))), none, 0⟩,
  ⟨(some 9), .mv (.t 18), none, 0⟩]))))))) (
.seq (.region false [
  ⟨(some 2), .mv (.k (.d (.b true))), none, 0⟩]) (
.ret)))), [.slot 2]⟩
def n217 : Notes := ⟨[⟨[3, 7, 8, 9], [], [], [], [], true⟩], []⟩

/-- slices.ContainsFunc(()string,string) -/
def c218 : CFn := ⟨.seq (.region false [
  ⟨(some 4), .mv (.k (.d (.b false))), none, 0⟩]) (
.seq (.region false [
  ⟨(some 5), .mv (.t 0), none, 0⟩,
  ⟨(some 6), .mv (.t 1), none, 0⟩,
  ⟨(some 7), .call 233 [(.t 5), (.t 6)] 4 true, none, 0⟩,
  ⟨(some 8), .bin .geq (.t 7) (.k (.d (.i .i64 0))), none, 0⟩,
  ⟨(some 4), .mv (.t 8), none, 0⟩]) (
.ret)), [.slot 4]⟩
def n218 : Notes := ⟨[], []⟩

/-- lemmata/gram.names$1 -/
def c219 : CFn := ⟨.seq (.region false [
  ⟨(some 2), .mv (.k (.d (.b false))), none, 0⟩]) (
.seq (.region false [
  ⟨(some 3), .mv (.t 0), none, 0⟩,
  ⟨(some 4), .call 220 [(.t 3)] 0 true, none, 0⟩,
  ⟨(some 5), .un .not (.t 4), none, 0⟩,
  ⟨(some 2), .mv (.t 5), none, 0⟩]) (
.ret)), [.slot 2]⟩
def n219 : Notes := ⟨[], []⟩

/-- lemmata/gram.name -/
def c220 : CFn := ⟨.seq (.region false [
  ⟨(some 2), .mv (.k (.d (.b false))), none, 0⟩]) (
.seq (.seq (.region false [
  ⟨(some 5), .mv (.t 0), none, 0⟩,
  ⟨(some 6), .len 1 (.t 5), none, 0⟩,
  ⟨(some 7), .bin .lss (.t 6) (.k (.d (.i .i64 1))), none, 0⟩,
  ⟨(some 8), .mv (.t 7), none, 0⟩,
  ⟨(some 9), .mv (.t 0), (some (8, false)), 0⟩,
  ⟨(some 10), .len 1 (.t 9), (some (8, false)), 0⟩,
  ⟨(some 11), .bin .gtr (.t 10) (.k (.d (.i .i64 8))), (some (8, false)), 0⟩,
  ⟨(some 12), .pick (.t 8) (.k (.d (.b true))) (.t 11), none, 0⟩]) (
.cond (.t 12) (
.seq (.region false [
  ⟨(some 2), .mv (.k (.d (.b false))), none, 0⟩]) (
.ret)) (.skip))) (
.seq (.seq (.region false [
  ⟨(some 13), .mv (.t 0), none, 0⟩,
  ⟨(some 14), .len 1 (.t 13), none, 0⟩,
  ⟨(some 15), .mv (.k (.d (.i .i64 0))), none, 0⟩]) (
.block 0 (.loop ⟨[0, 14, 15], [], [], [], [], true⟩ (.seq (.region false [
  ⟨(some 16), .bin .lss (.t 15) (.t 14), none, 0⟩]) (
.seq (.cond (.t 16) (
.skip) (.exit 0)) (
.seq (.block 1 (.seq (.region false [
  ⟨(some 17), .mv (.t 15), none, 0⟩,
  ⟨(some 3), .mv (.t 17), none, 0⟩]) (
.seq (.region false [
  ⟨(some 18), .mv (.t 0), none, 0⟩,
  ⟨(some 19), .mv (.t 3), none, 0⟩,
  ⟨(some 20), .ixs (.t 18) (.t 19), none, 0⟩,
  ⟨(some 21), .bin .geq (.t 20) (.k (.d (.i .u8 97))), none, 0⟩,
  ⟨(some 22), .mv (.t 21), none, 0⟩,
  ⟨(some 23), .mv (.t 0), (some (22, true)), 0⟩,
  ⟨(some 24), .mv (.t 3), (some (22, true)), 0⟩,
  ⟨(some 25), .ixs (.t 23) (.t 24), (some (22, true)), 0⟩,
  ⟨(some 26), .bin .leq (.t 25) (.k (.d (.i .u8 122))), (some (22, true)), 0⟩,
  ⟨(some 27), .pick (.t 22) (.t 26) (.k (.d (.b false))), none, 0⟩,
  ⟨(some 4), .mv (.t 27), none, 0⟩]) (
.seq (.region false [
  ⟨(some 28), .mv (.t 4), none, 0⟩,
  ⟨(some 29), .un .not (.t 28), none, 0⟩,
  ⟨(some 30), .mv (.t 29), none, 0⟩,
  ⟨(some 31), .mv (.t 3), (some (30, true)), 0⟩,
  ⟨(some 32), .bin .eql (.t 31) (.k (.d (.i .i64 0))), (some (30, true)), 0⟩,
  ⟨(some 33), .mv (.t 32), (some (30, true)), 0⟩,
  ⟨(some 34), .mv (.t 0), (some (33, false)), 0⟩,
  ⟨(some 35), .mv (.t 3), (some (33, false)), 0⟩,
  ⟨(some 36), .ixs (.t 34) (.t 35), (some (33, false)), 0⟩,
  ⟨(some 37), .bin .lss (.t 36) (.k (.d (.i .u8 48))), (some (33, false)), 0⟩,
  ⟨(some 38), .pick (.t 33) (.k (.d (.b true))) (.t 37), (some (30, true)), 0⟩,
  ⟨(some 39), .mv (.t 38), (some (30, true)), 0⟩,
  ⟨(some 40), .mv (.t 0), (some (39, false)), 0⟩,
  ⟨(some 41), .mv (.t 3), (some (39, false)), 0⟩,
  ⟨(some 42), .ixs (.t 40) (.t 41), (some (39, false)), 0⟩,
  ⟨(some 43), .bin .gtr (.t 42) (.k (.d (.i .u8 57))), (some (39, false)), 0⟩,
  ⟨(some 44), .pick (.t 39) (.k (.d (.b true))) (.t 43), (some (30, true)), 0⟩,
  ⟨(some 45), .pick (.t 30) (.t 44) (.k (.d (.b false))), none, 0⟩]) (
.cond (.t 45) (
.seq (.region false [
  ⟨(some 2), .mv (.k (.d (.b false))), none, 0⟩]) (
.ret)) (.skip)))))) (
.region false [
  ⟨(some 46), .bin .add (.t 15) (.k (.d (.i .i64 1))), none, 0⟩,
  ⟨(some 15), .mv (.t 46), none, 0⟩]))))))) (
.seq (.region false [
  ⟨(some 2), .mv (.k (.d (.b true))), none, 0⟩]) (
.ret)))), [.slot 2]⟩
def n220 : Notes := ⟨[⟨[0, 14, 15], [], [], [], [], true⟩], []⟩

/-- slices.IndexFunc(()lemmata/api.Prod,lemmata/api.Prod) -/
def c221 : CFn := ⟨.seq (.region false [
  ⟨(some 4), .mv (.k (.d (.i .i64 0))), none, 0⟩]) (
.seq (.seq (.region false [
  ⟨(some 6), .mv (.t 0), none, 0⟩,
  ⟨(some 7), .len 0 (.t 6), none, 0⟩,
  ⟨(some 8), .mv (.k (.d (.i .i64 0))), none, 0⟩]) (
.block 0 (.loop ⟨[0, 1, 7, 8], [], [], [], [], true⟩ (.seq (.region false [
  ⟨(some 9), .bin .lss (.t 8) (.t 7), none, 0⟩]) (
.seq (.cond (.t 9) (
.skip) (.exit 0)) (
.seq (.block 1 (.seq (.region false [
  ⟨(some 10), .mv (.t 8), none, 0⟩,
  ⟨(some 5), .mv (.t 10), none, 0⟩]) (
.seq (.region false [
  ⟨(some 11), .mv (.t 1), none, 0⟩,
  ⟨(some 12), .mv (.t 0), none, 0⟩,
  ⟨(some 13), .mv (.t 5), none, 0⟩,
  ⟨(some 14), .ia 3 (.t 12) (.t 13), none, 0⟩,
  ⟨(some 15), .ld true 3 (.t 14), none, 0⟩,
  ⟨(some 16), .callv (.t 11) [(.t 15)] 4 true, none, 0⟩]) (
.cond (.t 16) (
.seq (.region false [
  ⟨(some 17), .mv (.t 5), none, 0⟩,
  ⟨(some 4), .mv (.t 17), none, 0⟩]) (
.ret)) (.skip))))) (
.region false [
  ⟨(some 18), .bin .add (.t 8) (.k (.d (.i .i64 1))), none, 0⟩,
  ⟨(some 8), .mv (.t 18), none, 0⟩]))))))) (
.seq (.region false [
  ⟨(some 4), .mv (.k (.d (.i .i64 (-1)))), none, 0⟩]) (
.ret))), [.slot 4]⟩
def n221 : Notes := ⟨[⟨[0, 1, 7, 8], [], [], [], [], true⟩], []⟩

/-- slices.ContainsFunc(()lemmata/api.Sym,lemmata/api.Sym) -/
def c222 : CFn := ⟨.seq (.region false [
  ⟨(some 4), .mv (.k (.d (.b false))), none, 0⟩]) (
.seq (.region false [
  ⟨(some 5), .mv (.t 0), none, 0⟩,
  ⟨(some 6), .mv (.t 1), none, 0⟩,
  ⟨(some 7), .call 234 [(.t 5), (.t 6)] 4 true, none, 0⟩,
  ⟨(some 8), .bin .geq (.t 7) (.k (.d (.i .i64 0))), none, 0⟩,
  ⟨(some 4), .mv (.t 8), none, 0⟩]) (
.ret)), [.slot 4]⟩
def n222 : Notes := ⟨[], []⟩

/-- lemmata/gram.prod$1 -/
def c223 : CFn := ⟨.seq (.region false [
  ⟨(some 2), .box (.t 0), none, 0⟩,
  ⟨(some 3), .mv (.k (.d (.b false))), none, 0⟩]) (
.seq (.region false [
  ⟨(some 4), .ld true 3 (.t 1), none, 0⟩,
  ⟨(some 5), .ld true 2 (.t 2), none, 0⟩,
  ⟨(some 6), .call 224 [(.t 4), (.t 5)] 0 true, none, 0⟩,
  ⟨(some 7), .un .not (.t 6), none, 0⟩,
  ⟨(some 3), .mv (.t 7), none, 0⟩]) (
.ret)), [.slot 3]⟩
def n223 : Notes := ⟨[], []⟩

/-- lemmata/gram.sym -/
def c224 : CFn := ⟨.seq (.region false [
  ⟨(some 2), .box (.t 0), none, 0⟩,
  ⟨(some 3), .box (.t 1), none, 0⟩,
  ⟨(some 4), .mv (.k (.d (.b false))), none, 0⟩]) (
.seq (.seq (.region false [
  ⟨(some 5), .fa 0 (.t 3), none, 0⟩,
  ⟨(some 6), .ld false 1 (.t 5), none, 0⟩]) (
.cond (.t 6) (
.seq (.region false [
  ⟨(some 7), .fa 1 (.t 3), none, 0⟩,
  ⟨(some 8), .ld false 1 (.t 7), none, 0⟩,
  ⟨(some 9), .bin .geq (.t 8) (.k (.d (.i .i64 0))), none, 0⟩,
  ⟨(some 10), .mv (.t 9), none, 0⟩,
  ⟨(some 11), .fa 1 (.t 3), (some (10, true)), 0⟩,
  ⟨(some 12), .ld false 1 (.t 11), (some (10, true)), 0⟩,
  ⟨(some 13), .fa 0 (.t 2), (some (10, true)), 0⟩,
  ⟨(some 14), .ld false 1 (.t 13), (some (10, true)), 0⟩,
  ⟨(some 15), .len 0 (.t 14), (some (10, true)), 0⟩,
  ⟨(some 16), .bin .lss (.t 12) (.t 15), (some (10, true)), 0⟩,
  ⟨(some 17), .pick (.t 10) (.t 16) (.k (.d (.b false))), none, 0⟩,
  ⟨(some 18), .mv (.t 17), none, 0⟩,
  ⟨(some 19), .fa 0 (.t 2), (some (18, true)), 0⟩,
  ⟨(some 20), .ld false 1 (.t 19), (some (18, true)), 0⟩,
  ⟨(some 21), .fa 1 (.t 3), (some (18, true)), 0⟩,
  ⟨(some 22), .ld false 1 (.t 21), (some (18, true)), 0⟩,
  ⟨(some 23), .ia 3 (.t 20) (.t 22), (some (18, true)), 0⟩,
  ⟨(some 24), .fa 2 (.t 23), (some (18, true)), 0⟩,
  ⟨(some 25), .ld false 1 (.t 24), (some (18, true)), 0⟩,
  ⟨(some 26), .un .not (.t 25), (some (18, true)), 0⟩,
  ⟨(some 27), .pick (.t 18) (.t 26) (.k (.d (.b false))), none, 0⟩,
  ⟨(some 4), .mv (.t 27), none, 0⟩]) (
.ret)) (.skip))) (
.seq (.region false [
  ⟨(some 28), .fa 1 (.t 3), none, 0⟩,
  ⟨(some 29), .ld false 1 (.t 28), none, 0⟩,
  ⟨(some 30), .bin .geq (.t 29) (.k (.d (.i .i64 0))), none, 0⟩,
  ⟨(some 31), .mv (.t 30), none, 0⟩,
  ⟨(some 32), .fa 1 (.t 3), (some (31, true)), 0⟩,
  ⟨(some 33), .ld false 1 (.t 32), (some (31, true)), 0⟩,
  ⟨(some 34), .fa 1 (.t 2), (some (31, true)), 0⟩,
  ⟨(some 35), .ld false 1 (.t 34), (some (31, true)), 0⟩,
  ⟨(some 36), .len 0 (.t 35), (some (31, true)), 0⟩,
  ⟨(some 37), .bin .lss (.t 33) (.t 36), (some (31, true)), 0⟩,
  ⟨(some 38), .pick (.t 31) (.t 37) (.k (.d (.b false))), none, 0⟩,
  ⟨(some 4), .mv (.t 38), none, 0⟩]) (
.ret))), [.slot 4]⟩
def n224 : Notes := ⟨[], []⟩

/-- lemmata/attr.occ -/
def c225 : CFn := ⟨.seq (.region false [
  ⟨(some 2), .box (.t 0), none, 0⟩,
  ⟨(some 4), .mv (.k (.d (.i .i64 0))), none, 0⟩,
  ⟨(some 5), .mv (.k (.d (.b false))), none, 0⟩]) (
.seq (.block 0 (.seq (.region false [
  ⟨(some 7), .mv (.t 1), none, 0⟩,
  ⟨(some 8), .bin .eql (.t 7) (.k (.d (.i .i64 0))), none, 0⟩,
  ⟨(some 6), .mv (.t 8), none, 0⟩]) (
.cond (.t 6) (
.seq (.region false [
  ⟨(some 9), .fa 0 (.t 2), none, 0⟩,
  ⟨(some 10), .ld false 1 (.t 9), none, 0⟩,
  ⟨(some 4), .mv (.t 10), none, 0⟩,
  ⟨(some 5), .mv (.k (.d (.b true))), none, 0⟩]) (
.ret)) (.seq (.region false [
  ⟨(some 12), .mv (.t 1), none, 0⟩,
  ⟨(some 13), .bin .lss (.t 12) (.k (.d (.i .i64 0))), none, 0⟩,
  ⟨(some 14), .mv (.t 13), none, 0⟩,
  ⟨(some 15), .mv (.t 1), (some (14, false)), 0⟩,
  ⟨(some 16), .fa 1 (.t 2), (some (14, false)), 0⟩,
  ⟨(some 17), .ld false 1 (.t 16), (some (14, false)), 0⟩,
  ⟨(some 18), .len 0 (.t 17), (some (14, false)), 0⟩,
  ⟨(some 19), .bin .gtr (.t 15) (.t 18), (some (14, false)), 0⟩,
  ⟨(some 20), .pick (.t 14) (.k (.d (.b true))) (.t 19), none, 0⟩,
  ⟨(some 21), .mv (.t 20), none, 0⟩,
  ⟨(some 22), .fa 1 (.t 2), (some (21, false)), 0⟩,
  ⟨(some 23), .ld false 1 (.t 22), (some (21, false)), 0⟩,
  ⟨(some 24), .mv (.t 1), (some (21, false)), 0⟩,
  ⟨(some 25), .bin .sub (.t 24) (.k (.d (.i .i64 1))), (some (21, false)), 0⟩,
  ⟨(some 26), .ia 2 (.t 23) (.t 25), (some (21, false)), 0⟩,
  ⟨(some 27), .fa 0 (.t 26), (some (21, false)), 0⟩,
  ⟨(some 28), .ld false 1 (.t 27), (some (21, false)), 0⟩,
  ⟨(some 29), .pick (.t 21) (.k (.d (.b true))) (.t 28), none, 0⟩,
  ⟨(some 11), .mv (.t 29), none, 0⟩]) (
.cond (.t 11) (
.seq (.region false [
  ⟨(some 4), .mv (.k (.d (.i .i64 0))), none, 0⟩,
  ⟨(some 5), .mv (.k (.d (.b false))), none, 0⟩]) (
.ret)) (.skip)))))) (
.seq (.region false [
  ⟨(some 30), .fa 1 (.t 2), none, 0⟩,
  ⟨(some 31), .ld false 1 (.t 30), none, 0⟩,
  ⟨(some 32), .mv (.t 1), none, 0⟩,
  ⟨(some 33), .bin .sub (.t 32) (.k (.d (.i .i64 1))), none, 0⟩,
  ⟨(some 34), .ia 2 (.t 31) (.t 33), none, 0⟩,
  ⟨(some 35), .fa 1 (.t 34), none, 0⟩,
  ⟨(some 36), .ld false 1 (.t 35), none, 0⟩,
  ⟨(some 4), .mv (.t 36), none, 0⟩,
  ⟨(some 5), .mv (.k (.d (.b true))), none, 0⟩]) (
.ret))), [.slot 4, .slot 5]⟩
def n225 : Notes := ⟨[], []⟩

/-- slices.ContainsFunc(()lemmata/api.Rule,lemmata/api.Rule) -/
def c226 : CFn := ⟨.seq (.region false [
  ⟨(some 4), .mv (.k (.d (.b false))), none, 0⟩]) (
.seq (.region false [
  ⟨(some 5), .mv (.t 0), none, 0⟩,
  ⟨(some 6), .mv (.t 1), none, 0⟩,
  ⟨(some 7), .call 235 [(.t 5), (.t 6)] 4 true, none, 0⟩,
  ⟨(some 8), .bin .geq (.t 7) (.k (.d (.i .i64 0))), none, 0⟩,
  ⟨(some 4), .mv (.t 8), none, 0⟩]) (
.ret)), [.slot 4]⟩
def n226 : Notes := ⟨[], []⟩

/-- lemmata/attr.every(lemmata/api.Rule)$1 -/
def c227 : CFn := ⟨.seq (.region false [
  ⟨(some 2), .box (.t 0), none, 0⟩,
  ⟨(some 3), .mv (.k (.d (.b false))), none, 0⟩]) (
.seq (.region false [
  ⟨(some 4), .ld false 1 (.t 1), none, 0⟩,
  ⟨(some 5), .ld true 10 (.t 2), none, 0⟩,
  ⟨(some 6), .callv (.t 4) [(.t 5)] 4 true, none, 0⟩,
  ⟨(some 7), .un .not (.t 6), none, 0⟩,
  ⟨(some 3), .mv (.t 7), none, 0⟩]) (
.ret)), [.slot 3]⟩
def n227 : Notes := ⟨[], []⟩

/-- lemmata/expr.may -/
def c228 : CFn := ⟨.seq (.region false [
  ⟨(some 2), .box (.t 0), none, 0⟩,
  ⟨(some 3), .box (.t 1), none, 0⟩,
  ⟨(some 4), .mv (.k (.d (.b false))), none, 0⟩]) (
.seq (.region false [
  ⟨(some 6), .fa 0 (.t 2), none, 0⟩,
  ⟨(some 7), .ld false 1 (.t 6), none, 0⟩,
  ⟨(some 8), .call 236 [(.t 7)] 0 true, none, 0⟩,
  ⟨(some 5), .mv (.t 8), none, 0⟩]) (
.seq (.seq (.region false [
  ⟨(some 9), .ld false 1 (.t 3), none, 0⟩,
  ⟨(some 10), .bin .lss (.t 9) (.k (.d (.i .i64 1))), none, 0⟩,
  ⟨(some 11), .mv (.t 10), none, 0⟩,
  ⟨(some 12), .mv (.t 5), (some (11, false)), 0⟩,
  ⟨(some 13), .bin .eql (.t 12) (.k (.d (.i .i64 (-2)))), (some (11, false)), 0⟩,
  ⟨(some 14), .pick (.t 11) (.k (.d (.b true))) (.t 13), none, 0⟩,
  ⟨(some 15), .mv (.t 14), none, 0⟩,
  ⟨(some 16), .mv (.t 5), (some (15, false)), 0⟩,
  ⟨(some 17), .bin .geq (.t 16) (.k (.d (.i .i64 0))), (some (15, false)), 0⟩,
  ⟨(some 18), .mv (.t 17), (some (15, false)), 0⟩,
  ⟨(some 19), .fa 7 (.t 2), (some (18, true)), 0⟩,
  ⟨(some 20), .ld false 1 (.t 19), (some (18, true)), 0⟩,
  ⟨(some 21), .len 0 (.t 20), (some (18, true)), 0⟩,
  ⟨(some 22), .mv (.t 5), (some (18, true)), 0⟩,
  ⟨(some 23), .bin .neq (.t 21) (.t 22), (some (18, true)), 0⟩,
  ⟨(some 24), .pick (.t 18) (.t 23) (.k (.d (.b false))), (some (15, false)), 0⟩,
  ⟨(some 25), .pick (.t 15) (.k (.d (.b true))) (.t 24), none, 0⟩,
  ⟨(some 26), .mv (.t 25), none, 0⟩,
  ⟨(some 27), .fa 7 (.t 2), (some (26, false)), 0⟩,
  ⟨(some 28), .ld false 1 (.t 27), (some (26, false)), 0⟩,
  ⟨(some 29), .len 0 (.t 28), (some (26, false)), 0⟩,
  ⟨(some 30), .bin .gtr (.t 29) (.k (.d (.i .i64 4))), (some (26, false)), 0⟩,
  ⟨(some 31), .pick (.t 26) (.k (.d (.b true))) (.t 30), none, 0⟩,
  ⟨(some 32), .mv (.t 31), none, 0⟩,
  ⟨(some 33), .ld true 8 (.t 2), (some (32, false)), 0⟩,
  ⟨(some 34), .call 237 [(.t 33)] 0 true, (some (32, false)), 0⟩,
  ⟨(some 35), .un .not (.t 34), (some (32, false)), 0⟩,
  ⟨(some 36), .pick (.t 32) (.k (.d (.b true))) (.t 35), none, 0⟩]) (
.cond (.t 36) (
.seq (.region false [
  ⟨(some 4), .mv (.k (.d (.b false))), none, 0⟩]) (
.ret)) (.skip))) (
.seq (.region false [
  ⟨(some 37), .fa 7 (.t 2), none, 0⟩,
  ⟨(some 38), .ld false 1 (.t 37), none, 0⟩,
  ⟨(some 39), .mkf 238 [] [(.t 3)] true, none, 0⟩,
  ⟨(some 40), .call 229 [(.t 38), (.t 39)] 4 true, none, 0⟩,
  ⟨(some 41), .un .not (.t 40), none, 0⟩,
  ⟨(some 4), .mv (.t 41), none, 0⟩]) (
.ret)))), [.slot 4]⟩
def n228 : Notes := ⟨[], [0, 0, 0, 0, 0, 0, 0, 0, 0, 0, 0, 0, 0, 0, 0, 0, 0, 0, 0, 0, 0, 0, 0, 0, 0, 0, 0, 0, 0, 0, 0, 0, 0, 0, 0, 0, 0, 0, 1]⟩

/-- slices.ContainsFunc(()lemmata/api.Expr,lemmata/api.Expr) -/
def c229 : CFn := ⟨.seq (.region false [
  ⟨(some 4), .mv (.k (.d (.b false))), none, 0⟩]) (
.seq (.region false [
  ⟨(some 5), .mv (.t 0), none, 0⟩,
  ⟨(some 6), .mv (.t 1), none, 0⟩,
  ⟨(some 7), .call 239 [(.t 5), (.t 6)] 4 true, none, 0⟩,
  ⟨(some 8), .bin .geq (.t 7) (.k (.d (.i .i64 0))), none, 0⟩,
  ⟨(some 4), .mv (.t 8), none, 0⟩]) (
.ret)), [.slot 4]⟩
def n229 : Notes := ⟨[], []⟩

/-- lemmata/attr.texts$1 -/
def c230 : CFn := ⟨.seq (.region false [
  ⟨(some 2), .box (.t 0), none, 0⟩,
  ⟨(some 3), .mv (.k (.d (.b false))), none, 0⟩]) (
.seq (.region false [
  ⟨(some 4), .ld true 3 (.t 1), none, 0⟩,
  ⟨(some 5), .ld true 8 (.t 2), none, 0⟩,
  ⟨(some 6), .call 211 [(.t 4), (.t 5)] 0 true, none, 0⟩,
  ⟨(some 7), .un .not (.t 6), none, 0⟩,
  ⟨(some 3), .mv (.t 7), none, 0⟩]) (
.ret)), [.slot 3]⟩
def n230 : Notes := ⟨[], []⟩

/-- slices.ContainsFunc(()(2)int,(2)int) -/
def c231 : CFn := ⟨.seq (.region false [
  ⟨(some 4), .mv (.k (.d (.b false))), none, 0⟩]) (
.seq (.region false [
  ⟨(some 5), .mv (.t 0), none, 0⟩,
  ⟨(some 6), .mv (.t 1), none, 0⟩,
  ⟨(some 7), .call 240 [(.t 5), (.t 6)] 4 true, none, 0⟩,
  ⟨(some 8), .bin .geq (.t 7) (.k (.d (.i .i64 0))), none, 0⟩,
  ⟨(some 4), .mv (.t 8), none, 0⟩]) (
.ret)), [.slot 4]⟩
def n231 : Notes := ⟨[], []⟩

/-- lemmata/attr.every((2)int)$1 -/
def c232 : CFn := ⟨.seq (.region false [
  ⟨(some 2), .box (.t 0), none, 0⟩,
  ⟨(some 3), .mv (.k (.d (.b false))), none, 0⟩]) (
.seq (.region false [
  ⟨(some 4), .ld false 1 (.t 1), none, 0⟩,
  ⟨(some 5), .ld true 2 (.t 2), none, 0⟩,
  ⟨(some 6), .callv (.t 4) [(.t 5)] 4 true, none, 0⟩,
  ⟨(some 7), .un .not (.t 6), none, 0⟩,
  ⟨(some 3), .mv (.t 7), none, 0⟩]) (
.ret)), [.slot 3]⟩
def n232 : Notes := ⟨[], []⟩

/-- slices.IndexFunc(()string,string) -/
def c233 : CFn := ⟨.seq (.region false [
  ⟨(some 4), .mv (.k (.d (.i .i64 0))), none, 0⟩]) (
.seq (.seq (.region false [
  ⟨(some 6), .mv (.t 0), none, 0⟩,
  ⟨(some 7), .len 0 (.t 6), none, 0⟩,
  ⟨(some 8), .mv (.k (.d (.i .i64 0))), none, 0⟩]) (
.block 0 (.loop ⟨[0, 1, 7, 8], [], [], [], [], true⟩ (.seq (.region false [
  ⟨(some 9), .bin .lss (.t 8) (.t 7), none, 0⟩]) (
.seq (.cond (.t 9) (
.skip) (.exit 0)) (
.seq (.block 1 (.seq (.region false [
  ⟨(some 10), .mv (.t 8), none, 0⟩,
  ⟨(some 5), .mv (.t 10), none, 0⟩]) (
.seq (.region false [
  ⟨(some 11), .mv (.t 1), none, 0⟩,
  ⟨(some 12), .mv (.t 0), none, 0⟩,
  ⟨(some 13), .mv (.t 5), none, 0⟩,
  ⟨(some 14), .ia 1 (.t 12) (.t 13), none, 0⟩,
  ⟨(some 15), .ld false 1 (.t 14), none, 0⟩,
  ⟨(some 16), .callv (.t 11) [(.t 15)] 4 true, none, 0⟩]) (
.cond (.t 16) (
.seq (.region false [
  ⟨(some 17), .mv (.t 5), none, 0⟩,
  ⟨(some 4), .mv (.t 17), none, 0⟩]) (
.ret)) (.skip))))) (
.region false [
  ⟨(some 18), .bin .add (.t 8) (.k (.d (.i .i64 1))), none, 0⟩,
  ⟨(some 8), .mv (.t 18), none, 0⟩]))))))) (
.seq (.region false [
  ⟨(some 4), .mv (.k (.d (.i .i64 (-1)))), none, 0⟩]) (
.ret))), [.slot 4]⟩
def n233 : Notes := ⟨[⟨[0, 1, 7, 8], [], [], [], [], true⟩], []⟩

/-- slices.IndexFunc(()lemmata/api.Sym,lemmata/api.Sym) -/
def c234 : CFn := ⟨.seq (.region false [
  ⟨(some 4), .mv (.k (.d (.i .i64 0))), none, 0⟩]) (
.seq (.seq (.region false [
  ⟨(some 6), .mv (.t 0), none, 0⟩,
  ⟨(some 7), .len 0 (.t 6), none, 0⟩,
  ⟨(some 8), .mv (.k (.d (.i .i64 0))), none, 0⟩]) (
.block 0 (.loop ⟨[0, 1, 7, 8], [], [], [], [], true⟩ (.seq (.region false [
  ⟨(some 9), .bin .lss (.t 8) (.t 7), none, 0⟩]) (
.seq (.cond (.t 9) (
.skip) (.exit 0)) (
.seq (.block 1 (.seq (.region false [
  ⟨(some 10), .mv (.t 8), none, 0⟩,
  ⟨(some 5), .mv (.t 10), none, 0⟩]) (
.seq (.region false [
  ⟨(some 11), .mv (.t 1), none, 0⟩,
  ⟨(some 12), .mv (.t 0), none, 0⟩,
  ⟨(some 13), .mv (.t 5), none, 0⟩,
  ⟨(some 14), .ia 2 (.t 12) (.t 13), none, 0⟩,
  ⟨(some 15), .ld true 2 (.t 14), none, 0⟩,
  ⟨(some 16), .callv (.t 11) [(.t 15)] 4 true, none, 0⟩]) (
.cond (.t 16) (
.seq (.region false [
  ⟨(some 17), .mv (.t 5), none, 0⟩,
  ⟨(some 4), .mv (.t 17), none, 0⟩]) (
.ret)) (.skip))))) (
.region false [
  ⟨(some 18), .bin .add (.t 8) (.k (.d (.i .i64 1))), none, 0⟩,
  ⟨(some 8), .mv (.t 18), none, 0⟩]))))))) (
.seq (.region false [
  ⟨(some 4), .mv (.k (.d (.i .i64 (-1)))), none, 0⟩]) (
.ret))), [.slot 4]⟩
def n234 : Notes := ⟨[⟨[0, 1, 7, 8], [], [], [], [], true⟩], []⟩

/-- slices.IndexFunc(()lemmata/api.Rule,lemmata/api.Rule) -/
def c235 : CFn := ⟨.seq (.region false [
  ⟨(some 4), .mv (.k (.d (.i .i64 0))), none, 0⟩]) (
.seq (.seq (.region false [
  ⟨(some 6), .mv (.t 0), none, 0⟩,
  ⟨(some 7), .len 0 (.t 6), none, 0⟩,
  ⟨(some 8), .mv (.k (.d (.i .i64 0))), none, 0⟩]) (
.block 0 (.loop ⟨[0, 1, 7, 8], [], [], [], [], true⟩ (.seq (.region false [
  ⟨(some 9), .bin .lss (.t 8) (.t 7), none, 0⟩]) (
.seq (.cond (.t 9) (
.skip) (.exit 0)) (
.seq (.block 1 (.seq (.region false [
  ⟨(some 10), .mv (.t 8), none, 0⟩,
  ⟨(some 5), .mv (.t 10), none, 0⟩]) (
.seq (.region false [
  ⟨(some 11), .mv (.t 1), none, 0⟩,
  ⟨(some 12), .mv (.t 0), none, 0⟩,
  ⟨(some 13), .mv (.t 5), none, 0⟩,
  ⟨(some 14), .ia 10 (.t 12) (.t 13), none, 0⟩,
  ⟨(some 15), .ld true 10 (.t 14), none, 0⟩,
  ⟨(some 16), .callv (.t 11) [(.t 15)] 4 true, none, 0⟩]) (
.cond (.t 16) (
.seq (.region false [
  ⟨(some 17), .mv (.t 5), none, 0⟩,
  ⟨(some 4), .mv (.t 17), none, 0⟩]) (
.ret)) (.skip))))) (
.region false [
  ⟨(some 18), .bin .add (.t 8) (.k (.d (.i .i64 1))), none, 0⟩,
  ⟨(some 8), .mv (.t 18), none, 0⟩]))))))) (
.seq (.region false [
  ⟨(some 4), .mv (.k (.d (.i .i64 (-1)))), none, 0⟩]) (
.ret))), [.slot 4]⟩
def n235 : Notes := ⟨[⟨[0, 1, 7, 8], [], [], [], [], true⟩], []⟩

/-- lemmata/expr.takes -/
def c236 : CFn := ⟨.seq (.region false [
  ⟨(some 2), .mv (.k (.d (.i .i64 0))), none, 0⟩]) (
.seq (.seq (.region false [
  ⟨(some 3), .mv (.t 0), none, 0⟩]) (
.block 0 (.seq (.seq (.region false [
  ⟨(some 5), .bin .eql (.t 3) (.k (.d (.i .i64 0))), none, 0⟩,
  ⟨(some 4), .mv (.t 5), none, 0⟩]) (
.cond (.t 4) (
.skip) (.seq (.region false [
  ⟨(some 6), .bin .eql (.t 3) (.k (.d (.i .i64 1))), none, 0⟩,
  ⟨(some 4), .mv (.t 6), none, 0⟩]) (
.cond (.t 4) (
.skip) (.seq (.region false [
  ⟨(some 7), .bin .eql (.t 3) (.k (.d (.i .i64 2))), none, 0⟩,
  ⟨(some 4), .mv (.t 7), none, 0⟩]) (
.cond (.t 4) (
.skip) (.seq (.region false [
  ⟨(some 8), .bin .eql (.t 3) (.k (.d (.i .i64 3))), none, 0⟩,
  ⟨(some 4), .mv (.t 8), none, 0⟩]) (
.cond (.t 4) (
.skip) (.seq (.region false [
  ⟨(some 9), .bin .eql (.t 3) (.k (.d (.i .i64 21))), none, 0⟩,
  ⟨(some 4), .mv (.t 9), none, 0⟩]) (
.cond (.t 4) (
.skip) (.region false [
  ⟨(some 10), .bin .eql (.t 3) (.k (.d (.i .i64 22))), none, 0⟩,
  ⟨(some 4), .mv (.t 10), none, 0⟩]))))))))))) (
.cond (.t 4) (
.seq (.region false [
  ⟨(some 2), .mv (.k (.d (.i .i64 0))), none, 0⟩]) (
.ret)) (.seq (.seq (.region false [
  ⟨(some 12), .bin .eql (.t 3) (.k (.d (.i .i64 11))), none, 0⟩,
  ⟨(some 11), .mv (.t 12), none, 0⟩]) (
.cond (.t 11) (
.skip) (.region false [
  ⟨(some 13), .bin .eql (.t 3) (.k (.d (.i .i64 15))), none, 0⟩,
  ⟨(some 11), .mv (.t 13), none, 0⟩]))) (
.cond (.t 11) (
.seq (.region false [
  ⟨(some 2), .mv (.k (.d (.i .i64 1))), none, 0⟩]) (
.ret)) (.seq (.seq (.region false [
  ⟨(some 15), .bin .eql (.t 3) (.k (.d (.i .i64 12))), none, 0⟩,
  ⟨(some 14), .mv (.t 15), none, 0⟩]) (
.cond (.t 14) (
.skip) (.region false [
  ⟨(some 16), .bin .eql (.t 3) (.k (.d (.i .i64 16))), none, 0⟩,
  ⟨(some 14), .mv (.t 16), none, 0⟩]))) (
.cond (.t 14) (
.seq (.region false [
  ⟨(some 2), .mv (.k (.d (.i .i64 3))), none, 0⟩]) (
.ret)) (.seq (.region false [
  ⟨(some 18), .bin .eql (.t 3) (.k (.d (.i .i64 14))), none, 0⟩,
  ⟨(some 17), .mv (.t 18), none, 0⟩]) (
.cond (.t 17) (
.seq (.region false [
  ⟨(some 2), .mv (.k (.d (.i .i64 (-1)))), none, 0⟩]) (
.ret)) (.skip))))))))))) (
.seq (.seq (.region false [
  ⟨(some 19), .mv (.t 0), none, 0⟩,
  ⟨(some 20), .bin .gtr (.t 19) (.k (.d (.i .i64 3))), none, 0⟩,
  ⟨(some 21), .mv (.t 20), none, 0⟩,
  ⟨(some 22), .mv (.t 0), (some (21, true)), 0⟩,
  ⟨(some 23), .bin .lss (.t 22) (.k (.d (.i .i64 21))), (some (21, true)), 0⟩,
  ⟨(some 24), .pick (.t 21) (.t 23) (.k (.d (.b false))), none, 0⟩]) (
.cond (.t 24) (
.seq (.region false [
  ⟨(some 2), .mv (.k (.d (.i .i64 2))), none, 0⟩]) (
.ret)) (.skip))) (
.seq (.region false [
  ⟨(some 2), .mv (.k (.d (.i .i64 (-2)))), none, 0⟩]) (
.ret)))), [.slot 2]⟩
def n236 : Notes := ⟨[], []⟩

/-- lemmata/expr.fields -/
def c237 : CFn := ⟨.seq (.region false [
  ⟨(some 1), .box (.t 0), none, 0⟩,
  ⟨(some 2), .mv (.k (.d (.b false))), none, 0⟩]) (
.seq (.seq (.region false [
  ⟨(some 5), .fa 0 (.t 1), none, 0⟩,
  ⟨(some 6), .ld false 1 (.t 5), none, 0⟩,
  ⟨(some 7), .bin .eql (.t 6) (.k (.d (.i .i64 0))), none, 0⟩]) (
.cond (.t 7) (
.seq (.region false [
  ⟨(some 8), .fa 1 (.t 1), none, 0⟩,
  ⟨(some 9), .fa 0 (.t 8), none, 0⟩,
  ⟨(some 10), .ld false 1 (.t 9), none, 0⟩,
  ⟨(some 11), .bin .neq (.t 10) (.k (.d (.i .i64 7))), none, 0⟩,
  ⟨(some 12), .mv (.t 11), none, 0⟩,
  ⟨(some 13), .fa 1 (.t 1), (some (12, true)), 0⟩,
  ⟨(some 14), .ld true 4 (.t 13), (some (12, true)), 0⟩,
  ⟨(some 15), .call 111 [(.t 14)] 0 true, (some (12, true)), 0⟩,
  ⟨(some 16), .pick (.t 12) (.t 15) (.k (.d (.b false))), none, 0⟩,
  ⟨(some 17), .mv (.t 16), none, 0⟩,
  ⟨(some 18), .fa 5 (.t 1), (some (17, true)), 0⟩,
  ⟨(some 19), .ld false 1 (.t 18), (some (17, true)), 0⟩,
  ⟨(some 20), .bin .eql (.t 19) (.k (.d (.i .i64 0))), (some (17, true)), 0⟩,
  ⟨(some 21), .pick (.t 17) (.t 20) (.k (.d (.b false))), none, 0⟩,
  ⟨(some 22), .mv (.t 21), none, 0⟩,
  ⟨(some 23), .fa 6 (.t 1), (some (22, true)), 0⟩,
  ⟨(some 24), .ld false 1 (.t 23), (some (22, true)), 0⟩,
  ⟨(some 25), .bin .eql (.t 24) (.k (.d (.i .i64 0))), (some (22, true)), 0⟩,
  ⟨(some 26), .pick (.t 22) (.t 25) (.k (.d (.b false))), none, 0⟩,
  ⟨(some 2), .mv (.t 26), none, 0⟩]) (
.ret)) (.skip))) (
.seq (.region false [
  ⟨(some 3), .mv (.k (.d (.i .i64 0))), none, 0⟩,
  ⟨(some 4), .mv (.k (.d (.i .i64 0))), none, 0⟩]) (
.seq (.seq (.region false [
  ⟨(some 27), .fa 0 (.t 1), none, 0⟩,
  ⟨(some 28), .ld false 1 (.t 27), none, 0⟩]) (
.block 0 (.seq (.region false [
  ⟨(some 30), .bin .eql (.t 28) (.k (.d (.i .i64 1))), none, 0⟩,
  ⟨(some 29), .mv (.t 30), none, 0⟩]) (
.cond (.t 29) (
.region false [
  ⟨(some 3), .mv (.k (.d (.i .i64 5))), none, 0⟩,
  ⟨(some 4), .mv (.k (.d (.i .i64 7))), none, 0⟩]) (.seq (.seq (.region false [
  ⟨(some 32), .bin .eql (.t 28) (.k (.d (.i .i64 2))), none, 0⟩,
  ⟨(some 31), .mv (.t 32), none, 0⟩]) (
.cond (.t 31) (
.skip) (.region false [
  ⟨(some 33), .bin .eql (.t 28) (.k (.d (.i .i64 3))), none, 0⟩,
  ⟨(some 31), .mv (.t 33), none, 0⟩]))) (
.cond (.t 31) (
.region false [
  ⟨(some 3), .mv (.k (.d (.i .i64 5))), none, 0⟩]) (.skip))))))) (
.seq (.region false [
  ⟨(some 34), .fa 1 (.t 1), none, 0⟩,
  ⟨(some 35), .ld true 4 (.t 34), none, 0⟩,
  ⟨(some 36), .call 241 [(.t 35)] 0 true, none, 0⟩,
  ⟨(some 37), .mv (.t 36), none, 0⟩,
  ⟨(some 38), .fa 5 (.t 1), (some (37, true)), 0⟩,
  ⟨(some 39), .ld false 1 (.t 38), (some (37, true)), 0⟩,
  ⟨(some 40), .bin .geq (.t 39) (.k (.d (.i .i64 0))), (some (37, true)), 0⟩,
  ⟨(some 41), .pick (.t 37) (.t 40) (.k (.d (.b false))), none, 0⟩,
  ⟨(some 42), .mv (.t 41), none, 0⟩,
  ⟨(some 43), .fa 5 (.t 1), (some (42, true)), 0⟩,
  ⟨(some 44), .ld false 1 (.t 43), (some (42, true)), 0⟩,
  ⟨(some 45), .mv (.t 3), (some (42, true)), 0⟩,
  ⟨(some 46), .bin .leq (.t 44) (.t 45), (some (42, true)), 0⟩,
  ⟨(some 47), .pick (.t 42) (.t 46) (.k (.d (.b false))), none, 0⟩,
  ⟨(some 48), .mv (.t 47), none, 0⟩,
  ⟨(some 49), .fa 6 (.t 1), (some (48, true)), 0⟩,
  ⟨(some 50), .ld false 1 (.t 49), (some (48, true)), 0⟩,
  ⟨(some 51), .bin .geq (.t 50) (.k (.d (.i .i64 0))), (some (48, true)), 0⟩,
  ⟨(some 52), .pick (.t 48) (.t 51) (.k (.d (.b false))), none, 0⟩,
  ⟨(some 53), .mv (.t 52), none, 0⟩,
  ⟨(some 54), .fa 6 (.t 1), (some (53, true)), 0⟩,
  ⟨(some 55), .ld false 1 (.t 54), (some (53, true)), 0⟩,
  ⟨(some 56), .mv (.t 4), (some (53, true)), 0⟩,
  ⟨(some 57), .bin .leq (.t 55) (.t 56), (some (53, true)), 0⟩,
  ⟨(some 58), .pick (.t 53) (.t 57) (.k (.d (.b false))), none, 0⟩,
  ⟨(some 2), .mv (.t 58), none, 0⟩]) (
.ret))))), [.slot 2]⟩
def n237 : Notes := ⟨[], []⟩

/-- lemmata/expr.may$1 -/
def c238 : CFn := ⟨.seq (.region false [
  ⟨(some 2), .box (.t 0), none, 0⟩,
  ⟨(some 3), .mv (.k (.d (.b false))), none, 0⟩]) (
.seq (.region false [
  ⟨(some 4), .ld true 8 (.t 2), none, 0⟩,
  ⟨(some 5), .ld false 1 (.t 1), none, 0⟩,
  ⟨(some 6), .bin .sub (.t 5) (.k (.d (.i .i64 1))), none, 0⟩,
  ⟨(some 7), .call 228 [(.t 4), (.t 6)] 0 true, none, 0⟩,
  ⟨(some 8), .un .not (.t 7), none, 0⟩,
  ⟨(some 3), .mv (.t 8), none, 0⟩]) (
.ret)), [.slot 3]⟩
def n238 : Notes := ⟨[], []⟩

/-- slices.IndexFunc(()lemmata/api.Expr,lemmata/api.Expr) -/
def c239 : CFn := ⟨.seq (.region false [
  ⟨(some 4), .mv (.k (.d (.i .i64 0))), none, 0⟩]) (
.seq (.seq (.region false [
  ⟨(some 6), .mv (.t 0), none, 0⟩,
  ⟨(some 7), .len 0 (.t 6), none, 0⟩,
  ⟨(some 8), .mv (.k (.d (.i .i64 0))), none, 0⟩]) (
.block 0 (.loop ⟨[0, 1, 7, 8], [], [], [], [], true⟩ (.seq (.region false [
  ⟨(some 9), .bin .lss (.t 8) (.t 7), none, 0⟩]) (
.seq (.cond (.t 9) (
.skip) (.exit 0)) (
.seq (.block 1 (.seq (.region false [
  ⟨(some 10), .mv (.t 8), none, 0⟩,
  ⟨(some 5), .mv (.t 10), none, 0⟩]) (
.seq (.region false [
  ⟨(some 11), .mv (.t 1), none, 0⟩,
  ⟨(some 12), .mv (.t 0), none, 0⟩,
  ⟨(some 13), .mv (.t 5), none, 0⟩,
  ⟨(some 14), .ia 8 (.t 12) (.t 13), none, 0⟩,
  ⟨(some 15), .ld true 8 (.t 14), none, 0⟩,
  ⟨(some 16), .callv (.t 11) [(.t 15)] 4 true, none, 0⟩]) (
.cond (.t 16) (
.seq (.region false [
  ⟨(some 17), .mv (.t 5), none, 0⟩,
  ⟨(some 4), .mv (.t 17), none, 0⟩]) (
.ret)) (.skip))))) (
.region false [
  ⟨(some 18), .bin .add (.t 8) (.k (.d (.i .i64 1))), none, 0⟩,
  ⟨(some 8), .mv (.t 18), none, 0⟩]))))))) (
.seq (.region false [
  ⟨(some 4), .mv (.k (.d (.i .i64 (-1)))), none, 0⟩]) (
.ret))), [.slot 4]⟩
def n239 : Notes := ⟨[⟨[0, 1, 7, 8], [], [], [], [], true⟩], []⟩

/-- slices.IndexFunc(()(2)int,(2)int) -/
def c240 : CFn := ⟨.seq (.region false [
  ⟨(some 4), .mv (.k (.d (.i .i64 0))), none, 0⟩]) (
.seq (.seq (.region false [
  ⟨(some 6), .mv (.t 0), none, 0⟩,
  ⟨(some 7), .len 0 (.t 6), none, 0⟩,
  ⟨(some 8), .mv (.k (.d (.i .i64 0))), none, 0⟩]) (
.block 0 (.loop ⟨[0, 1, 7, 8], [], [], [], [], true⟩ (.seq (.region false [
  ⟨(some 9), .bin .lss (.t 8) (.t 7), none, 0⟩]) (
.seq (.cond (.t 9) (
.skip) (.exit 0)) (
.seq (.block 1 (.seq (.region false [
  ⟨(some 10), .mv (.t 8), none, 0⟩,
  ⟨(some 5), .mv (.t 10), none, 0⟩]) (
.seq (.region false [
  ⟨(some 11), .mv (.t 1), none, 0⟩,
  ⟨(some 12), .mv (.t 0), none, 0⟩,
  ⟨(some 13), .mv (.t 5), none, 0⟩,
  ⟨(some 14), .ia 2 (.t 12) (.t 13), none, 0⟩,
  ⟨(some 15), .ld true 2 (.t 14), none, 0⟩,
  ⟨(some 16), .callv (.t 11) [(.t 15)] 4 true, none, 0⟩]) (
.cond (.t 16) (
.seq (.region false [
  ⟨(some 17), .mv (.t 5), none, 0⟩,
  ⟨(some 4), .mv (.t 17), none, 0⟩]) (
.ret)) (.skip))))) (
.region false [
  ⟨(some 18), .bin .add (.t 8) (.k (.d (.i .i64 1))), none, 0⟩,
  ⟨(some 8), .mv (.t 18), none, 0⟩]))))))) (
.seq (.region false [
  ⟨(some 4), .mv (.k (.d (.i .i64 (-1)))), none, 0⟩]) (
.ret))), [.slot 4]⟩
def n240 : Notes := ⟨[⟨[0, 1, 7, 8], [], [], [], [], true⟩], []⟩

/-- lemmata/expr.zero -/
def c241 : CFn := ⟨.seq (.region false [
  ⟨(some 1), .box (.t 0), none, 0⟩,
  ⟨(some 2), .mv (.k (.d (.b false))), none, 0⟩]) (
.seq (.region false [
  ⟨(some 3), .fa 0 (.t 1), none, 0⟩,
  ⟨(some 4), .ld false 1 (.t 3), none, 0⟩,
  ⟨(some 5), .bin .eql (.t 4) (.k (.d (.i .i64 0))), none, 0⟩,
  ⟨(some 6), .mv (.t 5), none, 0⟩,
  ⟨(some 7), .fa 1 (.t 1), (some (6, true)), 0⟩,
  ⟨(some 8), .ld false 1 (.t 7), (some (6, true)), 0⟩,
  ⟨(some 9), .bin .eql (.t 8) (.k (.d (.i .i64 0))), (some (6, true)), 0⟩,
  ⟨(some 10), .pick (.t 6) (.t 9) (.k (.d (.b false))), none, 0⟩,
  ⟨(some 11), .mv (.t 10), none, 0⟩,
  ⟨(some 12), .fa 2 (.t 1), (some (11, true)), 0⟩,
  ⟨(some 13), .ld false 1 (.t 12), (some (11, true)), 0⟩,
  ⟨(some 14), .bin .eql (.t 13) (.k (.d (.s []))), (some (11, true)), 0⟩,
  ⟨(some 15), .pick (.t 11) (.t 14) (.k (.d (.b false))), none, 0⟩,
  ⟨(some 16), .mv (.t 15), none, 0⟩,
  ⟨(some 17), .fa 3 (.t 1), (some (16, true)), 0⟩,
  ⟨(some 18), .ld false 1 (.t 17), (some (16, true)), 0⟩,
  ⟨(some 19), .len 0 (.t 18), (some (16, true)), 0⟩,
  ⟨(some 20), .bin .eql (.t 19) (.k (.d (.i .i64 0))), (some (16, true)), 0⟩,
  ⟨(some 21), .pick (.t 16) (.t 20) (.k (.d (.b false))), none, 0⟩,
  ⟨(some 2), .mv (.t 21), none, 0⟩]) (
.ret)), [.slot 2]⟩
def n241 : Notes := ⟨[], []⟩

def tT : FTree := (.node 198 (.node 153 (.node 137 (.node 126 (.node 112 (.node 111 (.leaf 111 (.code c111)) (.leaf 112 (.code c112))) (.node 114 (.leaf 114 (.code c114)) (.node 125 (.leaf 125 (.code c125)) (.leaf 126 (.code c126))))) (.node 128 (.node 127 (.leaf 127 (.code c127)) (.leaf 128 (.code c128))) (.node 129 (.leaf 129 (.code c129)) (.node 130 (.leaf 130 (.code c130)) (.leaf 137 (.code c137)))))) (.node 143 (.node 140 (.node 139 (.leaf 139 (.code c139)) (.leaf 140 (.code c140))) (.node 141 (.leaf 141 (.code c141)) (.node 142 (.leaf 142 (.code c142)) (.leaf 143 (.code c143))))) (.node 145 (.node 144 (.leaf 144 (.code c144)) (.leaf 145 (.code c145))) (.node 151 (.leaf 151 (.code c151)) (.node 152 (.leaf 152 (.code c152)) (.leaf 153 (.code c153))))))) (.node 182 (.node 170 (.node 155 (.node 154 (.leaf 154 (.code c154)) (.leaf 155 (.code c155))) (.node 162 (.leaf 162 (.code c162)) (.node 169 (.leaf 169 (.code c169)) (.leaf 170 (.code c170))))) (.node 172 (.node 171 (.leaf 171 (.code c171)) (.leaf 172 (.code c172))) (.node 176 (.leaf 176 (.code c176)) (.node 181 (.leaf 181 (.code c181)) (.leaf 182 (.code c182)))))) (.node 188 (.node 185 (.node 184 (.leaf 184 (.code c184)) (.leaf 185 (.code c185))) (.node 186 (.leaf 186 (.code c186)) (.node 187 (.leaf 187 (.code c187)) (.leaf 188 (.code c188))))) (.node 191 (.node 189 (.leaf 189 (.code c189)) (.node 190 (.leaf 190 (.code c190)) (.leaf 191 (.code c191)))) (.node 192 (.leaf 192 (.code c192)) (.node 197 (.leaf 197 (.code c197)) (.leaf 198 (.code c198)))))))) (.node 220 (.node 208 (.node 203 (.node 200 (.node 199 (.leaf 199 (.code c199)) (.leaf 200 (.code c200))) (.node 201 (.leaf 201 (.code c201)) (.node 202 (.leaf 202 (.code c202)) (.leaf 203 (.code c203))))) (.node 205 (.node 204 (.leaf 204 (.code c204)) (.leaf 205 (.code c205))) (.node 206 (.leaf 206 (.code c206)) (.node 207 (.leaf 207 (.code c207)) (.leaf 208 (.code c208)))))) (.node 213 (.node 210 (.node 209 (.leaf 209 (.code c209)) (.leaf 210 (.code c210))) (.node 211 (.leaf 211 (.code c211)) (.node 212 (.leaf 212 (.code c212)) (.leaf 213 (.code c213))))) (.node 217 (.node 214 (.leaf 214 (.code c214)) (.node 216 (.leaf 216 (.code c216)) (.leaf 217 (.code c217)))) (.node 218 (.leaf 218 (.code c218)) (.node 219 (.leaf 219 (.code c219)) (.leaf 220 (.code c220))))))) (.node 230 (.node 225 (.node 222 (.node 221 (.leaf 221 (.code c221)) (.leaf 222 (.code c222))) (.node 223 (.leaf 223 (.code c223)) (.node 224 (.leaf 224 (.code c224)) (.leaf 225 (.code c225))))) (.node 227 (.node 226 (.leaf 226 (.code c226)) (.leaf 227 (.code c227))) (.node 228 (.leaf 228 (.code c228)) (.node 229 (.leaf 229 (.code c229)) (.leaf 230 (.code c230)))))) (.node 235 (.node 232 (.node 231 (.leaf 231 (.code c231)) (.leaf 232 (.code c232))) (.node 233 (.leaf 233 (.code c233)) (.node 234 (.leaf 234 (.code c234)) (.leaf 235 (.code c235))))) (.node 238 (.node 236 (.leaf 236 (.code c236)) (.node 237 (.leaf 237 (.code c237)) (.leaf 238 (.code c238)))) (.node 239 (.leaf 239 (.code c239)) (.node 240 (.leaf 240 (.code c240)) (.leaf 241 (.code c241)))))))))
noncomputable def tF : Nat → Option Fn := FTree.get tT
end Ab
