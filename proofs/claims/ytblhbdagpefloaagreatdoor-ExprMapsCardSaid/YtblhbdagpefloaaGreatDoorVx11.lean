/-
 Which values may be: the program's may, May.
-/
import Derived.Test.YtblhbdagpefloaaGreatDoorVx10
namespace Ab.Vx
open Go
set_option linter.unusedVariables false
set_option linter.unusedSimpArgs false
set_option maxRecDepth 100000
variable {E : Nat → Option Fn}
def badX (x : GVal) : Bool := decide (x.kind = 7) || !mayV x
theorem mayL_any (l : List GVal) : mayL l = !l.any badX := by
 rw [mayL_all]
 induction l with
 | nil => rfl
 | cons x r ih => simp only [List.all_cons, List.any_cons, ih, badX, Bool.not_or, Bool.not_not]
end Ab.Vx
