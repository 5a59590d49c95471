/-
 ExprSums: sums, differences and products are those of numbers, or told to be too great.
-/
import Derived.Test.YtblhbdagpefloaaGreatDoorX11
namespace Ab.Vx
open Go
set_option linter.unusedVariables false
set_option linter.unusedSimpArgs false
set_option maxRecDepth 100000
set_option maxHeartbeats 2000000
variable {E : Nat → Option Fn}
theorem gdR_nil : GdR [] [] := ⟨fun _ h => (by cases h), fun _ h => (by cases h)⟩
abbrev cellI (n : Int) : V := .agg [.d (.i .i64 0), .d (.i .i64 1), .d (.i .i64 n), .d (.s []), .d (.l 4 []), .d (.i .i64 0), .d (.i .i64 0), .d (.l 8 [])]
end Ab.Vx
