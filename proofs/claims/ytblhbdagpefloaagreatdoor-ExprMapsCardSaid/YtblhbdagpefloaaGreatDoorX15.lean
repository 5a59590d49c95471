/-
 Rows of values that are made.
-/
import Derived.Test.YtblhbdagpefloaaGreatDoorX14
namespace Ab.Vx
open Go
set_option linter.unusedVariables false
set_option linter.unusedSimpArgs false
set_option maxRecDepth 100000
set_option maxHeartbeats 1000000
variable {E : Nat → Option Fn}
end Ab.Vx
