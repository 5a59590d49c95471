/-
 Values that choices make.
-/
import Derived.Test.YtblhbdagpefloaaGreatDoorVx6
namespace Ab.Vx
open Go
set_option linter.unusedVariables false
set_option linter.unusedSimpArgs false
set_option maxRecDepth 100000
variable {E : Nat → Option Fn}
end Ab.Vx
