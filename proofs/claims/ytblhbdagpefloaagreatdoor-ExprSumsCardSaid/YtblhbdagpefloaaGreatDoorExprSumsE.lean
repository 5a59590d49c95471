/-
 ExprSums: the functions stand where they are looked for; what is asked first comes to true.
-/
import Derived.Test.YtblhbdagpefloaaGreatDoorX12
import Derived.Test.YtblhbdagpefloaaGreatDoorX11
import Derived.Test.YtblhbdagpefloaaGreatDoorExprSumsCode
import Derived.Test.YtblhbdagpefloaaGreatDoorPack3
namespace Ab.Vx
set_option linter.unusedVariables false
set_option maxRecDepth 100000
theorem xe : XE tF := ⟨rfl, rfl, rfl, rfl, rfl, rfl, rfl, rfl, rfl, rfl, rfl, rfl, rfl, rfl, rfl, rfl, rfl, rfl, rfl, rfl, rfl, rfl, rfl, rfl, rfl, rfl, rfl, rfl, rfl, rfl, rfl, rfl, rfl, rfl, rfl, rfl, rfl, rfl, rfl, rfl, rfl, rfl, rfl, rfl, rfl, rfl, rfl, rfl, rfl, rfl, rfl, rfl, rfl, rfl, rfl, rfl, rfl, rfl, rfl, rfl, rfl, rfl, rfl, rfl, rfl, rfl⟩
theorem begun : lcall tF 264 [] [] = some (.d (.b true), []) := slow_ok (n := 300) (by decide +kernel)
theorem exprSums_ok (x0 : Int) (a0 : -9223372036854775808 ≤ x0) (b0 : x0 ≤ 9223372036854775807) (x1 : Int) (a1 : -9223372036854775808 ≤ x1) (b1 : x1 ≤ 9223372036854775807) : lcall tF 262 [.d (.i .i64 x0), .d (.i .i64 x1)] [] = some (.d (.b true), []) :=
 sums_ok xe rfl rfl rfl begun x0 x1 ⟨a0, b0⟩ ⟨a1, b1⟩
end Ab.Vx
