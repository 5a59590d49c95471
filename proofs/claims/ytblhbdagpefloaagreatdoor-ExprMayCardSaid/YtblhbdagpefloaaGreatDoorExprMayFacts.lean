/-
 ExprMay: what the calls answer, one by one; reckoned by the kernel.
-/
import Derived.Test.YtblhbdagpefloaaGreatDoorExprMayCode
import Derived.Test.YtblhbdagpefloaaGreatDoorPack4
namespace Ab
set_option linter.unusedVariables false
set_option maxRecDepth 100000
def fa0 : List D := []
theorem fo0 : factOk tF (260, fa0, (.b true)) := saysK_ok (F := []) facts_nil (by decide +kernel)
def fs1 : List Fact := (260, fa0, (.b true)) :: []
theorem fh1 : ∀ f ∈ fs1, factOk tF f := facts_cons fo0 facts_nil
end Ab
