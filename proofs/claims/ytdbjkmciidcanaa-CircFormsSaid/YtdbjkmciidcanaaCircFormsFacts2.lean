/-
 CircForms: what the calls answer, one by one; reckoned by the kernel.
-/
import Derived.Test.YtdbjkmciidcanaaCircFormsFacts1
namespace Ab
set_option linter.unusedVariables false
set_option maxRecDepth 100000
noncomputable section
def fa14 : List V := [(.agg [(.d (.l 3 [[(.s [97]), (.s [97]), (.b false)]])), (.d (.l 3 [[(.s [115]), (.l 1 []), (.l 1 [[(.s [118])]])], [(.s [120]), (.l 1 [[(.s [105])]]), (.l 1 [[(.s [111])]])]])), gv6])]
theorem fo14 : factOk tF (193, fa14, (.d (.l 1 [[(.l 4 [[(.i .i64 (.ofNat 1)), (.i .i64 (.ofNat 1)), (.i .i64 (.ofNat 1)), (.i .i64 (.ofNat 0))], [(.i .i64 (.ofNat 1)), (.i .i64 (.ofNat 1)), (.i .i64 (.ofNat 0)), (.i .i64 (.ofNat 0))]])], [(.l 4 [])], [(.l 4 [[(.i .i64 (.ofNat 0)), (.i .i64 (.ofNat 0)), (.i .i64 (.ofNat 0)), (.i .i64 (.ofNat 1))]])]])), []) := saysK_ok (F := fs14) fh14 (by decide +kernel)
def fs15 : List Fact := (193, fa14, (.d (.l 1 [[(.l 4 [[(.i .i64 (.ofNat 1)), (.i .i64 (.ofNat 1)), (.i .i64 (.ofNat 1)), (.i .i64 (.ofNat 0))], [(.i .i64 (.ofNat 1)), (.i .i64 (.ofNat 1)), (.i .i64 (.ofNat 0)), (.i .i64 (.ofNat 0))]])], [(.l 4 [])], [(.l 4 [[(.i .i64 (.ofNat 0)), (.i .i64 (.ofNat 0)), (.i .i64 (.ofNat 0)), (.i .i64 (.ofNat 1))]])]])), []) :: fs14
theorem fh15 : ∀ f ∈ fs15, factOk tF f := facts_cons fo14 fh14
def fa15 : List V := [(.agg [(.d (.l 3 [[(.s [97]), (.s [97]), (.b false)]])), (.d (.l 3 [[(.s [115]), (.l 1 []), (.l 1 [[(.s [118])]])], [(.s [120]), (.l 1 [[(.s [105])]]), (.l 1 [[(.s [111])]])]])), gv7]), (.d (.i .i64 (.ofNat 0)))]
theorem fo15 : factOk tF (172, fa15, (.d (.l 4 [[(.i .i64 (.ofNat 1)), (.i .i64 (.ofNat 1)), (.i .i64 (.ofNat 1)), (.i .i64 (.ofNat 0))], [(.i .i64 (.ofNat 1)), (.i .i64 (.ofNat 1)), (.i .i64 (.ofNat 0)), (.i .i64 (.ofNat 0))]])), []) := saysK_ok (F := fs15) fh15 (by decide +kernel)
def fs16 : List Fact := (172, fa15, (.d (.l 4 [[(.i .i64 (.ofNat 1)), (.i .i64 (.ofNat 1)), (.i .i64 (.ofNat 1)), (.i .i64 (.ofNat 0))], [(.i .i64 (.ofNat 1)), (.i .i64 (.ofNat 1)), (.i .i64 (.ofNat 0)), (.i .i64 (.ofNat 0))]])), []) :: fs15
theorem fh16 : ∀ f ∈ fs16, factOk tF f := facts_cons fo15 fh15
def fa16 : List V := [(.agg [(.d (.l 3 [[(.s [97]), (.s [97]), (.b false)]])), (.d (.l 3 [[(.s [115]), (.l 1 []), (.l 1 [[(.s [118])]])], [(.s [120]), (.l 1 [[(.s [105])]]), (.l 1 [[(.s [111])]])]])), gv7])]
theorem fo16 : factOk tF (193, fa16, (.d (.l 1 [[(.l 4 [[(.i .i64 (.ofNat 1)), (.i .i64 (.ofNat 1)), (.i .i64 (.ofNat 1)), (.i .i64 (.ofNat 0))], [(.i .i64 (.ofNat 1)), (.i .i64 (.ofNat 1)), (.i .i64 (.ofNat 0)), (.i .i64 (.ofNat 0))]])], [(.l 4 [])], [(.l 4 [[(.i .i64 (.ofNat 0)), (.i .i64 (.ofNat 0)), (.i .i64 (.ofNat 1)), (.i .i64 (.ofNat 0))], [(.i .i64 (.ofNat 1)), (.i .i64 (.ofNat 1)), (.i .i64 (.ofNat 0)), (.i .i64 (.ofNat 1))]])]])), []) := saysK_ok (F := fs16) fh16 (by decide +kernel)
def fs17 : List Fact := (193, fa16, (.d (.l 1 [[(.l 4 [[(.i .i64 (.ofNat 1)), (.i .i64 (.ofNat 1)), (.i .i64 (.ofNat 1)), (.i .i64 (.ofNat 0))], [(.i .i64 (.ofNat 1)), (.i .i64 (.ofNat 1)), (.i .i64 (.ofNat 0)), (.i .i64 (.ofNat 0))]])], [(.l 4 [])], [(.l 4 [[(.i .i64 (.ofNat 0)), (.i .i64 (.ofNat 0)), (.i .i64 (.ofNat 1)), (.i .i64 (.ofNat 0))], [(.i .i64 (.ofNat 1)), (.i .i64 (.ofNat 1)), (.i .i64 (.ofNat 0)), (.i .i64 (.ofNat 1))]])]])), []) :: fs16
theorem fh17 : ∀ f ∈ fs17, factOk tF f := facts_cons fo16 fh16
def fa17 : List V := []
theorem fo17 : factOk tF (177, fa17, (.d (.b true)), []) := saysK_ok (F := fs17) fh17 (by decide +kernel)
def fs18 : List Fact := (177, fa17, (.d (.b true)), []) :: fs17
theorem fh18 : ∀ f ∈ fs18, factOk tF f := facts_cons fo17 fh17
def fa18 : List V := [(.agg [(.d (.l 3 [[(.s [97]), (.s [97]), (.b false)]])), (.d (.l 3 [[(.s [115]), (.l 1 []), (.l 1 [[(.s [118])]])], [(.s [120]), (.l 1 [[(.s [105])]]), (.l 1 [[(.s [111])]])]])), gv6])]
theorem fo18 : factOk tF (180, fa18, (.d (.b true)), []) := saysK_ok (F := fs18) fh18 (by decide +kernel)
def fs19 : List Fact := (180, fa18, (.d (.b true)), []) :: fs18
theorem fh19 : ∀ f ∈ fs19, factOk tF f := facts_cons fo18 fh18
def fa19 : List V := [(.agg [(.d (.l 3 [[(.s [97]), (.s [97]), (.b false)]])), (.d (.l 3 [[(.s [115]), (.l 1 []), (.l 1 [[(.s [118])]])], [(.s [120]), (.l 1 [[(.s [105])]]), (.l 1 [[(.s [111])]])]])), gv5])]
theorem fo19 : factOk tF (180, fa19, (.d (.b false)), []) := saysK_ok (F := fs19) fh19 (by decide +kernel)
def fs20 : List Fact := (180, fa19, (.d (.b false)), []) :: fs19
theorem fh20 : ∀ f ∈ fs20, factOk tF f := facts_cons fo19 fh19
def fa20 : List V := [(.agg [(.d (.l 3 [[(.s [97]), (.s [97]), (.b false)]])), (.d (.l 3 [[(.s [115]), (.l 1 []), (.l 1 [[(.s [118])]])], [(.s [120]), (.l 1 [[(.s [105])]]), (.l 1 [[(.s [111])]])]])), gv7])]
theorem fo20 : factOk tF (180, fa20, (.d (.b false)), []) := saysK_ok (F := fs20) fh20 (by decide +kernel)
def fs21 : List Fact := (180, fa20, (.d (.b false)), []) :: fs20
theorem fh21 : ∀ f ∈ fs21, factOk tF f := facts_cons fo20 fh20
end
end Ab
