/-
 WordForms: the functions stand where they are looked for; what is asked first comes to true.
-/
import Derived.Test.YthmlhnbjbbfklaaDoorText0
import Derived.Test.YthmlhnbjbbfklaaDoorPack3
namespace Ab.Wd
set_option linter.unusedVariables false
set_option maxRecDepth 100000
theorem we : WE tF := ⟨rfl, rfl, rfl, rfl, rfl, rfl, rfl, rfl, rfl, rfl, rfl, rfl, rfl, rfl, rfl, rfl, rfl, rfl, rfl, rfl⟩
theorem begun : lcall tF 446 [] [] = some (.d (.b true), []) := slow_ok (n := 300) (by decide +kernel)
theorem wordForms_all : lcall tF 443 [] [] = some (.d (.b true), []) := wordForms_ok we rfl begun
end Ab.Wd
