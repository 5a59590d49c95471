/-
 The generator's expressions.
-/
import Derived.Test.YtblhbdagpefloaaGreatDoorX11
namespace Ab.Vx
open Go
set_option linter.unusedVariables false
set_option linter.unusedSimpArgs false
set_option maxRecDepth 100000
set_option maxHeartbeats 1000000
variable {E : Nat → Option Fn}
def mvV (v : GVal) : Bool := decide (sizeV v ≤ 60) && mayV v
theorem mvV_gd {v : GVal} (h : Gd v) : mvV v = true := by
 unfold mvV
 have := h.size
 rw [sizeV_fit v (by omega), h.may, decide_eq_true (by omega)]; rfl
end Ab.Vx
