/-
 ExprSize: the functions stand where they are looked for; what is asked first comes to true.
-/
import Derived.Test.YtblhbdagpefloaaGreatDoorX13
import Derived.Test.YtblhbdagpefloaaGreatDoorX11
import Derived.Test.YtblhbdagpefloaaGreatDoorExprSizeCode
import Derived.Test.YtblhbdagpefloaaGreatDoorPack3
namespace Ab.Vx
set_option linter.unusedVariables false
set_option maxRecDepth 100000
theorem xe : XE tF := ⟨rfl, rfl, rfl, rfl, rfl, rfl, rfl, rfl, rfl, rfl, rfl, rfl, rfl, rfl, rfl, rfl, rfl, rfl, rfl, rfl, rfl, rfl, rfl, rfl, rfl, rfl, rfl, rfl, rfl, rfl, rfl, rfl, rfl, rfl, rfl, rfl, rfl, rfl, rfl, rfl, rfl, rfl, rfl, rfl, rfl, rfl, rfl, rfl, rfl, rfl, rfl, rfl, rfl, rfl, rfl, rfl, rfl, rfl, rfl, rfl, rfl, rfl, rfl, rfl, rfl, rfl⟩
theorem begun : lcall tF 264 [] [] = some (.d (.b true), []) := slow_ok (n := 300) (by decide +kernel)
theorem exprSize_ok (x0 : UInt8) : lcall tF 259 [.d (.i .u8 x0.toNat)] [] = some (.d (.b true), []) :=
 size9_ok xe rfl rfl rfl rfl rfl rfl begun x0.toNat x0.toBitVec.isLt
end Ab.Vx
