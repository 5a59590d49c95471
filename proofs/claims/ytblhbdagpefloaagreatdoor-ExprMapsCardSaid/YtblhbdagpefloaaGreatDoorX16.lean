/-
 The generators' and the document's functions, together; ExprTotal.
-/
import Derived.Test.YtblhbdagpefloaaGreatDoorX15
import Derived.Test.YtblhbdagpefloaaGreatDoorX12
namespace Ab.Vx
open Go
set_option linter.unusedVariables false
set_option linter.unusedSimpArgs false
set_option maxRecDepth 100000
set_option maxHeartbeats 1000000
variable {E : Nat → Option Fn}
theorem gsm {v : GVal} (h : Gd v) : Small v := small_sz v (by have := h.size; omega)
theorem rmay (e110 : E 110 = some (.code c110)) (e113 : E 113 = some (.code c113)) (e115 : E 115 = some (.code c115)) (e131 : E 131 = some (.code c131)) {v : GVal} (h : Gd v) : lcall E 110 [v.arg] [] = some (.d (.b true), []) := by
 have := refMay_ok e110 (refSize_ok e113) (refCmp_ok e115 e131) v (gsm h) (by have := h.size; unfold Fit; omega)
 rw [this]
 have hm := mvV_gd h
 unfold mvV at hm
 unfold mayR
 rw [hm]
end Ab.Vx
