/-
 CircForms: what the calls answer, one by one; reckoned by the kernel.
-/
import Derived.Test.YtdbjkmciidcanaaCircFormsFacts2
namespace Ab
set_option linter.unusedVariables false
set_option maxRecDepth 100000
noncomputable section
def fa21 : List V := [(.agg [(.d (.l 3 [[(.s [97]), (.s [97]), (.b false)]])), (.d (.l 3 [[(.s [115]), (.l 1 []), (.l 1 [[(.s [118])]])], [(.s [120]), (.l 1 [[(.s [105])]]), (.l 1 [[(.s [111])]])]])), gv4])]
theorem fo21 : factOk tF (180, fa21, (.d (.b true)), []) := saysK_ok (F := fs21) fh21 (by decide +kernel)
def fs22 : List Fact := (180, fa21, (.d (.b true)), []) :: fs21
theorem fh22 : ∀ f ∈ fs22, factOk tF f := facts_cons fo21 fh21
def fa22 : List V := [(.agg [(.d (.l 3 [[(.s [97]), (.s [97]), (.b false)]])), (.d (.l 3 [[(.s [115]), (.l 1 []), (.l 1 [[(.s [118])]])], [(.s [120]), (.l 1 [[(.s [105])]]), (.l 1 [[(.s [111])]])]])), gv7])]
theorem fo22 : factOk tF (169, fa22, (.d (.b true)), []) := saysK_ok (F := fs22) fh22 (by decide +kernel)
def fs23 : List Fact := (169, fa22, (.d (.b true)), []) :: fs22
theorem fh23 : ∀ f ∈ fs23, factOk tF f := facts_cons fo22 fh22
def fa23 : List V := [(.agg [(.d (.l 3 [[(.s [97]), (.s [97]), (.b false)]])), (.d (.l 3 [[(.s [115]), (.l 1 []), (.l 1 [[(.s [118])]])], [(.s [120]), (.l 1 [[(.s [105])]]), (.l 1 [[(.s [111])]])]])), gv6])]
theorem fo23 : factOk tF (169, fa23, (.d (.b true)), []) := saysK_ok (F := fs23) fh23 (by decide +kernel)
def fs24 : List Fact := (169, fa23, (.d (.b true)), []) :: fs23
theorem fh24 : ∀ f ∈ fs24, factOk tF f := facts_cons fo23 fh23
def fa24 : List V := [(.agg [(.d (.l 3 [[(.s [97]), (.s [97]), (.b false)]])), (.d (.l 3 [[(.s [115]), (.l 1 []), (.l 1 [[(.s [118])]])], [(.s [120]), (.l 1 [[(.s [105])]]), (.l 1 [[(.s [111])]])]])), gv4])]
theorem fo24 : factOk tF (169, fa24, (.d (.b true)), []) := saysK_ok (F := fs24) fh24 (by decide +kernel)
def fs25 : List Fact := (169, fa24, (.d (.b true)), []) :: fs24
theorem fh25 : ∀ f ∈ fs25, factOk tF f := facts_cons fo24 fh24
def fa25 : List V := [(.agg [(.d (.l 3 [[(.s [97]), (.s [97]), (.b false)]])), (.d (.l 3 [[(.s [115]), (.l 1 []), (.l 1 [[(.s [118])]])], [(.s [120]), (.l 1 [[(.s [105])]]), (.l 1 [[(.s [111])]])]])), gv5])]
theorem fo25 : factOk tF (169, fa25, (.d (.b true)), []) := saysK_ok (F := fs25) fh25 (by decide +kernel)
def fs26 : List Fact := (169, fa25, (.d (.b true)), []) :: fs25
theorem fh26 : ∀ f ∈ fs26, factOk tF f := facts_cons fo25 fh25
def fa26 : List V := []
theorem fo26 : factOk tF (164, fa26, (.d (.b true)), []) := saysK_ok (F := fs26) fh26 (by decide +kernel)
def fs27 : List Fact := (164, fa26, (.d (.b true)), []) :: fs26
theorem fh27 : ∀ f ∈ fs27, factOk tF f := facts_cons fo26 fh26
end
end Ab
