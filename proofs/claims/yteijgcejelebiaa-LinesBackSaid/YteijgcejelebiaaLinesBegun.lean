/-
  Lines: what is asked first comes to true; reckoned by the kernel.
-/
import Derived.Test.YteijgcejelebiaaLinesCode
import Derived.Test.YteijgcejelebiaaPack4
namespace Ab
set_option linter.unusedVariables false
set_option maxRecDepth 100000
theorem linesBegun : lcall tF 245 [] [] = some (.d (.b true), []) := saysK_ok (F := []) (args := []) facts_nil (by decide +kernel)
end Ab
