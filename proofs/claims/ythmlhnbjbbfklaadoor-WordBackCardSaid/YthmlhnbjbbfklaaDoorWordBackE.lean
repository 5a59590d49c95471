/-
 WordBack: the functions stand where they are looked for; what is asked first comes to true.
-/
import Derived.Test.YthmlhnbjbbfklaaDoorText1
import Derived.Test.YthmlhnbjbbfklaaDoorPack3
namespace Ab.Wd
set_option linter.unusedVariables false
set_option maxRecDepth 100000
theorem we : WE tF := ⟨rfl, rfl, rfl, rfl, rfl, rfl, rfl, rfl, rfl, rfl, rfl, rfl, rfl, rfl, rfl, rfl, rfl, rfl, rfl, rfl⟩
theorem begun : lcall tF 446 [] [] = some (.d (.b true), []) := slow_ok (n := 300) (by decide +kernel)
theorem wordBack_all (l : List Nat) (h : ∀ x ∈ l, x ≤ 65535) (q : List (List UInt8)) : lcall tF 444 [.d (.l 1 (u16Rows l)), .d (.l 1 (strRows q))] [] = some (.d (.b true), []) := wordBack_ok we rfl begun l h q
end Ab.Wd
