/-
 ExprTotal: the functions stand where they are looked for; what is asked first comes to true.
-/
import Derived.Test.YtblhbdagpefloaaGreatDoorX16
import Derived.Test.YtblhbdagpefloaaGreatDoorX11
import Derived.Test.YtblhbdagpefloaaGreatDoorExprTotalCode
import Derived.Test.YtblhbdagpefloaaGreatDoorPack3
namespace Ab.Vx
set_option linter.unusedVariables false
set_option maxRecDepth 100000
theorem xe : XE tF := ⟨rfl, rfl, rfl, rfl, rfl, rfl, rfl, rfl, rfl, rfl, rfl, rfl, rfl, rfl, rfl, rfl, rfl, rfl, rfl, rfl, rfl, rfl, rfl, rfl, rfl, rfl, rfl, rfl, rfl, rfl, rfl, rfl, rfl, rfl, rfl, rfl, rfl, rfl, rfl, rfl, rfl, rfl, rfl, rfl, rfl, rfl, rfl, rfl, rfl, rfl, rfl, rfl, rfl, rfl, rfl, rfl, rfl, rfl, rfl, rfl, rfl, rfl, rfl, rfl, rfl, rfl⟩
theorem begun : lcall tF 264 [] [] = some (.d (.b true), []) := slow_ok (n := 300) (by decide +kernel)
theorem re : RE tF := ⟨rfl, rfl, rfl, rfl, rfl, rfl, rfl, rfl, rfl, rfl, rfl, rfl⟩
theorem exprTotal_ok (x0 x1 : List UInt8) : lcall tF 256 [.d (.l 1 (byteRow x0)), .d (.l 1 (byteRow x1))] [] = some (.d (.b true), []) :=
 total_ok xe re rfl rfl rfl rfl begun x0 x1
end Ab.Vx
