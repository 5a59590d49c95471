/-
 Values that choices make: GVal.
-/
import Derived.Test.YtblhbdagpefloaaGreatDoorVx7
namespace Ab.Vx
open Go
set_option linter.unusedVariables false
set_option linter.unusedSimpArgs false
set_option maxRecDepth 100000
variable {E : Nat → Option Fn}
abbrev zbox : Option Obj := some (.box [.d (.i .i64 0), .d (.i .i64 0), .d (.s []), .nil 4])
theorem pair_len {x : GVal} (h : pairV x = true) : x.l.length = 2 := by
 unfold pairV at h
 simp only [Bool.and_eq_true] at h
 have := h.2
 split at this
 ·rename_i hl; rw [hl]; rfl
 ·cases this
end Ab.Vx
