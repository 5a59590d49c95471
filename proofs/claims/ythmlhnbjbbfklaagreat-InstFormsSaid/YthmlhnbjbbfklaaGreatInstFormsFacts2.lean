/-
 InstForms: what the calls answer, one by one; reckoned by the kernel.
-/
import Derived.Test.YthmlhnbjbbfklaaGreatInstFormsFacts1
namespace Ab
set_option linter.unusedVariables false
set_option maxRecDepth 100000
noncomputable section
def fa18 : List V := [(.agg [gv0, gv1, gv2]), (.agg [gv6, (.d (.i .i64 (.ofNat 6)))]), (.d (.i .i64 (.ofNat 3))), (.d (.i .i64 (.ofNat 0)))]
theorem fo18 : factOk tF (376, fa18, (.d (.l 2 [[(.i .i64 (.ofNat 2)), (.i .i64 (.ofNat 0))]])), []) := saysK_ok (F := fs18) fh18 (by decide +kernel)
def fs19 : List Fact := (376, fa18, (.d (.l 2 [[(.i .i64 (.ofNat 2)), (.i .i64 (.ofNat 0))]])), []) :: fs18
theorem fh19 : ∀ f ∈ fs19, factOk tF f := facts_cons fo18 fh18
def fa19 : List V := [(.agg [gv0, gv1, gv2]), (.agg [gv6, (.d (.i .i64 (.ofNat 6)))]), (.d (.i .i64 (.ofNat 5))), (.d (.i .i64 (.ofNat 1)))]
theorem fo19 : factOk tF (374, fa19, (.tup [(.d (.i .i64 (.ofNat 1))), (.d (.i .i64 (.ofNat 2))), (.d (.b true))]), []) := saysK_ok (F := fs19) fh19 (by decide +kernel)
def fs20 : List Fact := (374, fa19, (.tup [(.d (.i .i64 (.ofNat 1))), (.d (.i .i64 (.ofNat 2))), (.d (.b true))]), []) :: fs19
theorem fh20 : ∀ f ∈ fs20, factOk tF f := facts_cons fo19 fh19
def fa20 : List V := [(.agg [gv0, gv1, gv2]), (.agg [gv6, (.d (.i .i64 (.ofNat 6)))]), (.d (.i .i64 (.ofNat 1))), (.d (.i .i64 (.ofNat 1)))]
theorem fo20 : factOk tF (376, fa20, (.d (.l 2 [[(.i .i64 (.ofNat 2)), (.i .i64 (.ofNat 1))]])), []) := saysK_ok (F := fs20) fh20 (by decide +kernel)
def fs21 : List Fact := (376, fa20, (.d (.l 2 [[(.i .i64 (.ofNat 2)), (.i .i64 (.ofNat 1))]])), []) :: fs20
theorem fh21 : ∀ f ∈ fs21, factOk tF f := facts_cons fo20 fh20
def fa21 : List V := [(.agg [gv0, gv1, gv2]), (.agg [gv6, (.d (.i .i64 (.ofNat 6)))]), (.d (.i .i64 (.ofNat 2))), (.d (.i .i64 (.ofNat 1)))]
theorem fo21 : factOk tF (376, fa21, (.d (.l 2 [[(.i .i64 (.ofNat 5)), (.i .i64 (.ofNat 2))]])), []) := saysK_ok (F := fs21) fh21 (by decide +kernel)
def fs22 : List Fact := (376, fa21, (.d (.l 2 [[(.i .i64 (.ofNat 5)), (.i .i64 (.ofNat 2))]])), []) :: fs21
theorem fh22 : ∀ f ∈ fs22, factOk tF f := facts_cons fo21 fh21
def fa22 : List V := [(.agg [gv0, gv1, gv2]), (.agg [gv6, (.d (.i .i64 (.ofNat 6)))]), (.d (.i .i64 (.ofNat 2))), (.d (.i .i64 (.ofNat 0)))]
theorem fo22 : factOk tF (376, fa22, (.d (.l 2 [])), []) := saysK_ok (F := fs22) fh22 (by decide +kernel)
def fs23 : List Fact := (376, fa22, (.d (.l 2 [])), []) :: fs22
theorem fh23 : ∀ f ∈ fs23, factOk tF f := facts_cons fo22 fh22
def fa23 : List V := [(.agg [gv0, gv1, gv2]), (.agg [gv6, (.d (.i .i64 (.ofNat 6)))]), (.d (.i .i64 (.ofNat 5))), (.d (.i .i64 (.ofNat 0)))]
theorem fo23 : factOk tF (374, fa23, (.tup [(.d (.i .i64 (.ofNat 1))), (.d (.i .i64 (.ofNat 1))), (.d (.b true))]), []) := saysK_ok (F := fs23) fh23 (by decide +kernel)
def fs24 : List Fact := (374, fa23, (.tup [(.d (.i .i64 (.ofNat 1))), (.d (.i .i64 (.ofNat 1))), (.d (.b true))]), []) :: fs23
theorem fh24 : ∀ f ∈ fs24, factOk tF f := facts_cons fo23 fh23
def fa24 : List V := [(.agg [gv0, gv1, gv2]), (.agg [gv6, (.d (.i .i64 (.ofNat 6)))]), (.d (.i .i64 (.ofNat 5))), (.d (.i .i64 (.ofNat 2)))]
theorem fo24 : factOk tF (376, fa24, (.d (.l 2 [[(.i .i64 (.ofNat 5)), (.i .i64 (.ofNat 1))]])), []) := saysK_ok (F := fs24) fh24 (by decide +kernel)
def fs25 : List Fact := (376, fa24, (.d (.l 2 [[(.i .i64 (.ofNat 5)), (.i .i64 (.ofNat 1))]])), []) :: fs24
theorem fh25 : ∀ f ∈ fs25, factOk tF f := facts_cons fo24 fh24
def fa25 : List V := [(.agg [gv0, gv1, gv2]), (.agg [gv6, (.d (.i .i64 (.ofNat 6)))]), (.d (.i .i64 (.ofNat 1))), (.d (.i .i64 (.ofNat 0)))]
theorem fo25 : factOk tF (376, fa25, (.d (.l 2 [[(.i .i64 (.ofNat 2)), (.i .i64 (.ofNat 1))]])), []) := saysK_ok (F := fs25) fh25 (by decide +kernel)
def fs26 : List Fact := (376, fa25, (.d (.l 2 [[(.i .i64 (.ofNat 2)), (.i .i64 (.ofNat 1))]])), []) :: fs25
theorem fh26 : ∀ f ∈ fs26, factOk tF f := facts_cons fo25 fh25
def fa26 : List V := [(.agg [gv0, gv1, gv2]), (.agg [gv6, (.d (.i .i64 (.ofNat 6)))]), (.d (.i .i64 (.ofNat 3))), (.d (.i .i64 (.ofNat 0)))]
theorem fo26 : factOk tF (374, fa26, (.tup [(.d (.i .i64 (.ofNat 1))), (.d (.i .i64 (.ofNat 0))), (.d (.b true))]), []) := saysK_ok (F := fs26) fh26 (by decide +kernel)
def fs27 : List Fact := (374, fa26, (.tup [(.d (.i .i64 (.ofNat 1))), (.d (.i .i64 (.ofNat 0))), (.d (.b true))]), []) :: fs26
theorem fh27 : ∀ f ∈ fs27, factOk tF f := facts_cons fo26 fh26
end
end Ab
