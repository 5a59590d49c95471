/-
 ExprSums: sums, differences and products are those of numbers, or told to be too great.
-/
import Derived.Test.YtblhbdagpefloaaGreatDoorX11
namespace Ab.Vx
open Go
set_option linter.unusedVariables false
set_option linter.unusedSimpArgs false
set_option maxRecDepth 100000
set_option maxHeartbeats 2000000
variable {E : Nat → Option Fn}
theorem gdR_nil : GdR [] [] := ⟨fun _ h => (by cases h), fun _ h => (by cases h)⟩
theorem gd_int (n : Int) : Gd (intG n) := ⟨may_int n, by rw [szN_eq]; simp [intG, gF, szL]⟩
theorem gdE_con {v : GVal} (h : Gd v) : GdE (conE v) := .mk (fun _ => h) (fun _ h => (by cases h)) (by simp)
theorem eval_con {vs : List (List GVal)} {ts : List (List UInt8)} {v : GVal} (h : Gd v) : evalF vs ts (conE v) = v := by
 rw [evalF_eq]
 show fitG (coreG vs ts 0 v 0 0 []) = v
 unfold coreG
 have : takesF 0 = 0 := rfl
 rw [if_neg (by rw [this]; simp), if_pos rfl, fit_of h.size]
abbrev rowI (n : Int) : List D := [.i .i64 0, .i .i64 1, .i .i64 n, .s [], .l 4 [], .i .i64 0, .i .i64 0, .l 8 []]
abbrev cellI (n : Int) : V := .agg [.d (.i .i64 0), .d (.i .i64 1), .d (.i .i64 n), .d (.s []), .d (.l 4 []), .d (.i .i64 0), .d (.i .i64 0), .d (.l 8 [])]
end Ab.Vx
