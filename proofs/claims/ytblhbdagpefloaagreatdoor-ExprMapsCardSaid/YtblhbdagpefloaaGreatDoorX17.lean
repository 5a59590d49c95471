/-
 ExprChoice: what is not chosen is no matter.
-/
import Derived.Test.YtblhbdagpefloaaGreatDoorX16
namespace Ab.Vx
open Go
set_option linter.unusedVariables false
set_option linter.unusedSimpArgs false
set_option maxRecDepth 100000
set_option maxHeartbeats 1000000
variable {E : Nat → Option Fn}
theorem gd_bool (b : Bool) : Gd (boolG b) := by
 cases b
 ·exact ⟨rfl, by decide⟩
 ·exact ⟨rfl, by decide⟩
abbrev cellL (op : Int) (l : List (List D)) : V := .agg [.d (.i .i64 op), .d (.i .i64 0), .d (.i .i64 0), .d (.s []), .d (.l 4 []), .d (.i .i64 0), .d (.i .i64 0), .d (.l 8 l)]
theorem gd_do {op : Int} {l : List Exp} (h : op ≠ 0) (hl : l.length ≤ 15) (hg : ∀ x ∈ l, GdE x) : GdE (doE op l) := .mk (fun e => absurd e h) hg hl
end Ab.Vx
