/-
 Which values may be: the program's answer.
-/
import Derived.Test.YtblhbdagpefloaaGreatDoorVx9
namespace Ab.Vx
open Go
set_option linter.unusedVariables false
set_option linter.unusedSimpArgs false
set_option maxRecDepth 100000
variable {E : Nat → Option Fn}
theorem c3_neg (x y : List UInt8) : decide (c3 (bytesLess x y) (!(bytesLess x y || x == y)) < 0) = bytesLess x y := by
 unfold c3
 cases h : bytesLess x y with
 | true => simp
 | false => simp; split <;> simp
end Ab.Vx
