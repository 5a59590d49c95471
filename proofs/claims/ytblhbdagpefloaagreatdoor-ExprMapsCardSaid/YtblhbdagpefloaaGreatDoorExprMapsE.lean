/-
 ExprMaps: the functions stand where they are looked for; what is asked first comes to true.
-/
import Derived.Test.YtblhbdagpefloaaGreatDoorX18
import Derived.Test.YtblhbdagpefloaaGreatDoorX11
import Derived.Test.YtblhbdagpefloaaGreatDoorExprMapsCode
import Derived.Test.YtblhbdagpefloaaGreatDoorPack3
namespace Ab.Vx
set_option linter.unusedVariables false
set_option maxRecDepth 100000
theorem xe : XE tF := ⟨rfl, rfl, rfl, rfl, rfl, rfl, rfl, rfl, rfl, rfl, rfl, rfl, rfl, rfl, rfl, rfl, rfl, rfl, rfl, rfl, rfl, rfl, rfl, rfl, rfl, rfl, rfl, rfl, rfl, rfl, rfl, rfl, rfl, rfl, rfl, rfl, rfl, rfl, rfl, rfl, rfl, rfl, rfl, rfl, rfl, rfl, rfl, rfl, rfl, rfl, rfl, rfl, rfl, rfl, rfl, rfl, rfl, rfl, rfl, rfl, rfl, rfl, rfl, rfl, rfl, rfl⟩
theorem begun : lcall tF 264 [] [] = some (.d (.b true), []) := slow_ok (n := 300) (by decide +kernel)
theorem exprMaps_ok (x0 : List (UInt8 × UInt8)) : lcall tF 261 [.d (.l 2 (p8Row x0))] [] = some (.d (.b true), []) :=
 maps_law xe rfl rfl rfl rfl rfl rfl rfl begun x0
end Ab.Vx
