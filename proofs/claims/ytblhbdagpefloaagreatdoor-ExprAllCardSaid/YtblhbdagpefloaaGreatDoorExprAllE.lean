/-
 ExprAll: the functions stand where they are looked for; what is asked first comes to true.
-/
import Derived.Test.YtblhbdagpefloaaGreatDoorText6
import Derived.Test.YtblhbdagpefloaaGreatDoorText5
import Derived.Test.YtblhbdagpefloaaGreatDoorPack3
namespace Ab.Vx
set_option linter.unusedVariables false
set_option maxRecDepth 100000
theorem xe:XE tF:=⟨rfl,rfl,rfl,rfl,rfl,rfl,rfl,rfl,rfl,rfl,rfl,rfl,rfl,rfl,rfl,rfl,rfl,rfl,rfl,rfl,rfl,rfl,rfl,rfl,rfl,rfl,rfl,rfl,rfl,rfl,rfl,rfl,rfl,rfl,rfl,rfl,rfl,rfl,rfl,rfl,rfl,rfl,rfl,rfl,rfl,rfl,rfl,rfl,rfl,rfl,rfl,rfl,rfl,rfl,rfl,rfl,rfl,rfl,rfl,rfl,rfl,rfl,rfl,rfl,rfl,rfl⟩
theorem Zjt:lcall tF 264 [] []=some (.d (.b true),[]):=z8v (n:=300) (by decide +kernel)
theorem re:RE tF:=⟨rfl,rfl,rfl,rfl,rfl,rfl,rfl,rfl,rfl,rfl,rfl,rfl⟩
theorem ze:ZE tF:=⟨rfl,rfl,rfl,rfl,rfl,rfl,rfl,rfl,rfl,rfl,rfl,rfl,rfl,rfl,rfl,rfl⟩
theorem exprAll_ok (x0 x1:List UInt8){x2:Exp}(h:AllW FitV x2):lcall tF 255 [.d (.l 1 (zca x0)),.d (.l 1 (zca x1)),x2.arg] []=some (.d (.b true),[]) :=
 z9m ⟨xe,re,ze,rfl,rfl,rfl,rfl,rfl,rfl,rfl,rfl⟩ rfl Zjt x0 x1 h
end Ab.Vx
