/-
 InstForms: what the calls answer, one by one; reckoned by the kernel.
-/
import Derived.Test.YthmlhnbjbbfklaaGreatInstFormsFacts0
namespace Ab
set_option linter.unusedVariables false
set_option maxRecDepth 100000
noncomputable section
def fa9 : List V := [(.agg [gv0, gv1, gv2]), (.agg [gv5, (.d (.i .i64 (.ofNat 16)))])]
theorem fo9 : factOk tF (373, fa9, (.d (.l 2 [[(.i .i64 (.ofNat 1)), (.i .i64 (.ofNat 0))], [(.i .i64 (.ofNat 1)), (.i .i64 (.ofNat 1))], [(.i .i64 (.ofNat 2)), (.i .i64 (.ofNat 0))], [(.i .i64 (.ofNat 2)), (.i .i64 (.ofNat 1))], [(.i .i64 (.ofNat 3)), (.i .i64 (.ofNat 0))], [(.i .i64 (.ofNat 3)), (.i .i64 (.ofNat 1))], [(.i .i64 (.ofNat 3)), (.i .i64 (.ofNat 2))], [(.i .i64 (.ofNat 5)), (.i .i64 (.ofNat 0))], [(.i .i64 (.ofNat 5)), (.i .i64 (.ofNat 1))], [(.i .i64 (.ofNat 6)), (.i .i64 (.ofNat 0))], [(.i .i64 (.ofNat 6)), (.i .i64 (.ofNat 1))], [(.i .i64 (.ofNat 6)), (.i .i64 (.ofNat 2))], [(.i .i64 (.ofNat 8)), (.i .i64 (.ofNat 0))], [(.i .i64 (.ofNat 8)), (.i .i64 (.ofNat 1))], [(.i .i64 (.ofNat 9)), (.i .i64 (.ofNat 0))], [(.i .i64 (.ofNat 9)), (.i .i64 (.ofNat 1))], [(.i .i64 (.ofNat 9)), (.i .i64 (.ofNat 2))], [(.i .i64 (.ofNat 11)), (.i .i64 (.ofNat 0))], [(.i .i64 (.ofNat 11)), (.i .i64 (.ofNat 1))], [(.i .i64 (.ofNat 11)), (.i .i64 (.ofNat 2))], [(.i .i64 (.ofNat 13)), (.i .i64 (.ofNat 0))], [(.i .i64 (.ofNat 13)), (.i .i64 (.ofNat 1))], [(.i .i64 (.ofNat 13)), (.i .i64 (.ofNat 2))], [(.i .i64 (.ofNat 15)), (.i .i64 (.ofNat 0))], [(.i .i64 (.ofNat 15)), (.i .i64 (.ofNat 1))], [(.i .i64 (.ofNat 15)), (.i .i64 (.ofNat 2))]])), []) := saysK_ok (F := fs9) fh9 (by decide +kernel)
def fs10 : List Fact := (373, fa9, (.d (.l 2 [[(.i .i64 (.ofNat 1)), (.i .i64 (.ofNat 0))], [(.i .i64 (.ofNat 1)), (.i .i64 (.ofNat 1))], [(.i .i64 (.ofNat 2)), (.i .i64 (.ofNat 0))], [(.i .i64 (.ofNat 2)), (.i .i64 (.ofNat 1))], [(.i .i64 (.ofNat 3)), (.i .i64 (.ofNat 0))], [(.i .i64 (.ofNat 3)), (.i .i64 (.ofNat 1))], [(.i .i64 (.ofNat 3)), (.i .i64 (.ofNat 2))], [(.i .i64 (.ofNat 5)), (.i .i64 (.ofNat 0))], [(.i .i64 (.ofNat 5)), (.i .i64 (.ofNat 1))], [(.i .i64 (.ofNat 6)), (.i .i64 (.ofNat 0))], [(.i .i64 (.ofNat 6)), (.i .i64 (.ofNat 1))], [(.i .i64 (.ofNat 6)), (.i .i64 (.ofNat 2))], [(.i .i64 (.ofNat 8)), (.i .i64 (.ofNat 0))], [(.i .i64 (.ofNat 8)), (.i .i64 (.ofNat 1))], [(.i .i64 (.ofNat 9)), (.i .i64 (.ofNat 0))], [(.i .i64 (.ofNat 9)), (.i .i64 (.ofNat 1))], [(.i .i64 (.ofNat 9)), (.i .i64 (.ofNat 2))], [(.i .i64 (.ofNat 11)), (.i .i64 (.ofNat 0))], [(.i .i64 (.ofNat 11)), (.i .i64 (.ofNat 1))], [(.i .i64 (.ofNat 11)), (.i .i64 (.ofNat 2))], [(.i .i64 (.ofNat 13)), (.i .i64 (.ofNat 0))], [(.i .i64 (.ofNat 13)), (.i .i64 (.ofNat 1))], [(.i .i64 (.ofNat 13)), (.i .i64 (.ofNat 2))], [(.i .i64 (.ofNat 15)), (.i .i64 (.ofNat 0))], [(.i .i64 (.ofNat 15)), (.i .i64 (.ofNat 1))], [(.i .i64 (.ofNat 15)), (.i .i64 (.ofNat 2))]])), []) :: fs9
theorem fh10 : ∀ f ∈ fs10, factOk tF f := facts_cons fo9 fh9
def fa10 : List V := [(.agg [gv0, gv1, gv2]), (.agg [gv5, (.d (.i .i64 (.ofNat 16)))]), (.d (.i .i64 (.ofNat 1))), (.d (.i .i64 (.ofNat 0)))]
theorem fo10 : factOk tF (376, fa10, (.d (.l 2 [[(.i .i64 (.ofNat 2)), (.i .i64 (.ofNat 1))]])), []) := saysK_ok (F := fs10) fh10 (by decide +kernel)
def fs11 : List Fact := (376, fa10, (.d (.l 2 [[(.i .i64 (.ofNat 2)), (.i .i64 (.ofNat 1))]])), []) :: fs10
theorem fh11 : ∀ f ∈ fs11, factOk tF f := facts_cons fo10 fh10
def fa11 : List V := [(.agg [gv0, gv1, gv2]), (.agg [gv5, (.d (.i .i64 (.ofNat 16)))]), (.d (.i .i64 (.ofNat 1))), (.d (.i .i64 (.ofNat 9)))]
theorem fo11 : factOk tF (374, fa11, (.tup [(.d (.i .i64 (.ofNat 0))), (.d (.i .i64 (.ofNat 0))), (.d (.b false))]), []) := saysK_ok (F := fs11) fh11 (by decide +kernel)
def fs12 : List Fact := (374, fa11, (.tup [(.d (.i .i64 (.ofNat 0))), (.d (.i .i64 (.ofNat 0))), (.d (.b false))]), []) :: fs11
theorem fh12 : ∀ f ∈ fs12, factOk tF f := facts_cons fo11 fh11
def fa12 : List V := [(.agg [gv0, gv1, gv2]), (.agg [gv5, (.d (.i .i64 (.ofNat 16)))]), (.d (.i .i64 (.ofNat 1))), (.d (.i .i64 (.ofNat 0)))]
theorem fo12 : factOk tF (374, fa12, (.tup [(.d (.i .i64 (.ofNat 0))), (.d (.i .i64 (.ofNat 1))), (.d (.b true))]), []) := saysK_ok (F := fs12) fh12 (by decide +kernel)
def fs13 : List Fact := (374, fa12, (.tup [(.d (.i .i64 (.ofNat 0))), (.d (.i .i64 (.ofNat 1))), (.d (.b true))]), []) :: fs12
theorem fh13 : ∀ f ∈ fs13, factOk tF f := facts_cons fo12 fh12
def fa13 : List V := []
theorem fo13 : factOk tF (368, fa13, (.d (.b true)), []) := saysK_ok (F := fs13) fh13 (by decide +kernel)
def fs14 : List Fact := (368, fa13, (.d (.b true)), []) :: fs13
theorem fh14 : ∀ f ∈ fs14, factOk tF f := facts_cons fo13 fh13
def fa14 : List V := [(.d (.i .i64 (.ofNat 0))), (.d (.s [55]))]
theorem fo14 : factOk tF (379, fa14, (.tup [(.agg [gv0, gv1, gv2]), (.agg [gv6, (.d (.i .i64 (.ofNat 6)))]), (.d (.b true))]), []) := saysK_ok (F := fs14) fh14 (by decide +kernel)
def fs15 : List Fact := (379, fa14, (.tup [(.agg [gv0, gv1, gv2]), (.agg [gv6, (.d (.i .i64 (.ofNat 6)))]), (.d (.b true))]), []) :: fs14
theorem fh15 : ∀ f ∈ fs15, factOk tF f := facts_cons fo14 fh14
def fa15 : List V := [(.agg [gv0, gv1, gv2]), (.agg [gv6, (.d (.i .i64 (.ofNat 6)))]), (.d (.i .i64 (.ofNat 5))), (.d (.i .i64 (.ofNat 1)))]
theorem fo15 : factOk tF (376, fa15, (.d (.l 2 [[(.i .i64 (.ofNat 3)), (.i .i64 (.ofNat 1))]])), []) := saysK_ok (F := fs15) fh15 (by decide +kernel)
def fs16 : List Fact := (376, fa15, (.d (.l 2 [[(.i .i64 (.ofNat 3)), (.i .i64 (.ofNat 1))]])), []) :: fs15
theorem fh16 : ∀ f ∈ fs16, factOk tF f := facts_cons fo15 fh15
def fa16 : List V := [(.agg [gv0, gv1, gv2]), (.agg [gv6, (.d (.i .i64 (.ofNat 6)))]), (.d (.i .i64 (.ofNat 5))), (.d (.i .i64 (.ofNat 0)))]
theorem fo16 : factOk tF (376, fa16, (.d (.l 2 [[(.i .i64 (.ofNat 2)), (.i .i64 (.ofNat 0))]])), []) := saysK_ok (F := fs16) fh16 (by decide +kernel)
def fs17 : List Fact := (376, fa16, (.d (.l 2 [[(.i .i64 (.ofNat 2)), (.i .i64 (.ofNat 0))]])), []) :: fs16
theorem fh17 : ∀ f ∈ fs17, factOk tF f := facts_cons fo16 fh16
def fa17 : List V := [(.agg [gv0, gv1, gv2]), (.agg [gv6, (.d (.i .i64 (.ofNat 6)))])]
theorem fo17 : factOk tF (373, fa17, (.d (.l 2 [[(.i .i64 (.ofNat 1)), (.i .i64 (.ofNat 0))], [(.i .i64 (.ofNat 1)), (.i .i64 (.ofNat 1))], [(.i .i64 (.ofNat 2)), (.i .i64 (.ofNat 0))], [(.i .i64 (.ofNat 2)), (.i .i64 (.ofNat 1))], [(.i .i64 (.ofNat 3)), (.i .i64 (.ofNat 0))], [(.i .i64 (.ofNat 3)), (.i .i64 (.ofNat 1))], [(.i .i64 (.ofNat 3)), (.i .i64 (.ofNat 2))], [(.i .i64 (.ofNat 5)), (.i .i64 (.ofNat 0))], [(.i .i64 (.ofNat 5)), (.i .i64 (.ofNat 1))], [(.i .i64 (.ofNat 5)), (.i .i64 (.ofNat 2))]])), []) := saysK_ok (F := fs17) fh17 (by decide +kernel)
def fs18 : List Fact := (373, fa17, (.d (.l 2 [[(.i .i64 (.ofNat 1)), (.i .i64 (.ofNat 0))], [(.i .i64 (.ofNat 1)), (.i .i64 (.ofNat 1))], [(.i .i64 (.ofNat 2)), (.i .i64 (.ofNat 0))], [(.i .i64 (.ofNat 2)), (.i .i64 (.ofNat 1))], [(.i .i64 (.ofNat 3)), (.i .i64 (.ofNat 0))], [(.i .i64 (.ofNat 3)), (.i .i64 (.ofNat 1))], [(.i .i64 (.ofNat 3)), (.i .i64 (.ofNat 2))], [(.i .i64 (.ofNat 5)), (.i .i64 (.ofNat 0))], [(.i .i64 (.ofNat 5)), (.i .i64 (.ofNat 1))], [(.i .i64 (.ofNat 5)), (.i .i64 (.ofNat 2))]])), []) :: fs17
theorem fh18 : ∀ f ∈ fs18, factOk tF f := facts_cons fo17 fh17
end
end Ab
