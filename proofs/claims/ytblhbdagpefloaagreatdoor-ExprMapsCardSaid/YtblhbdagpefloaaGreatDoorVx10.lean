/-
 Which values may be: the program's answer.
-/
import Derived.Test.YtblhbdagpefloaaGreatDoorVx9
namespace Ab.Vx
open Go
set_option linter.unusedVariables false
set_option linter.unusedSimpArgs false
set_option maxRecDepth 100000
variable {E : Nat → Option Fn}
theorem chain_step {p : GVal → GVal → Bool} {l : List GVal} {i : Nat} (h : i + 1 < l.length) : chainB p (l.drop i) = (p l[i] l[i + 1] && chainB p (l.drop (i + 1))) := by
 rw [drop_cons (show i < l.length by omega), drop_cons h, chainB]
theorem c3_neg (x y : List UInt8) : decide (c3 (bytesLess x y) (!(bytesLess x y || x == y)) < 0) = bytesLess x y := by
 unfold c3
 cases h : bytesLess x y with
 | true => simp
 | false => simp; split <;> simp
end Ab.Vx
