/-
 ExprChoice: the functions stand where they are looked for; what is asked first comes to true.
-/
import Derived.Test.YtblhbdagpefloaaGreatDoorX17
import Derived.Test.YtblhbdagpefloaaGreatDoorX11
import Derived.Test.YtblhbdagpefloaaGreatDoorExprChoiceCode
import Derived.Test.YtblhbdagpefloaaGreatDoorPack3
namespace Ab.Vx
set_option linter.unusedVariables false
set_option maxRecDepth 100000
theorem xe : XE tF := ⟨rfl, rfl, rfl, rfl, rfl, rfl, rfl, rfl, rfl, rfl, rfl, rfl, rfl, rfl, rfl, rfl, rfl, rfl, rfl, rfl, rfl, rfl, rfl, rfl, rfl, rfl, rfl, rfl, rfl, rfl, rfl, rfl, rfl, rfl, rfl, rfl, rfl, rfl, rfl, rfl, rfl, rfl, rfl, rfl, rfl, rfl, rfl, rfl, rfl, rfl, rfl, rfl, rfl, rfl, rfl, rfl, rfl, rfl, rfl, rfl, rfl, rfl, rfl, rfl, rfl, rfl⟩
theorem begun : lcall tF 264 [] [] = some (.d (.b true), []) := slow_ok (n := 300) (by decide +kernel)
theorem re : RE tF := ⟨rfl, rfl, rfl, rfl, rfl, rfl, rfl, rfl, rfl, rfl, rfl, rfl⟩
theorem exprChoice_ok (x0 x1 : Bool) (x2 : List UInt8) : lcall tF 263 [.d (.b x0), .d (.b x1), .d (.l 1 (byteRow x2))] [] = some (.d (.b true), []) :=
 choice_law xe re rfl rfl rfl rfl begun x0 x1 x2
end Ab.Vx
