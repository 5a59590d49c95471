/-
 InstForms: what the calls answer, one by one; reckoned by the kernel.
-/
import Derived.Test.YthmlhnbjbbfklaaGreatInstFormsFacts2
namespace Ab
set_option linter.unusedVariables false
set_option maxRecDepth 100000
noncomputable section
def fa27 : List V := [(.agg [gv0, gv1, gv2]), (.agg [gv6, (.d (.i .i64 (.ofNat 6)))]), (.d (.i .i64 (.ofNat 3))), (.d (.i .i64 (.ofNat 2)))]
theorem fo27 : factOk tF (376, fa27, (.d (.l 2 [])), []) := saysK_ok (F := fs27) fh27 (by decide +kernel)
def fs28 : List Fact := (376, fa27, (.d (.l 2 [])), []) :: fs27
theorem fh28 : ∀ f ∈ fs28, factOk tF f := facts_cons fo27 fh27
def fa28 : List V := [(.agg [gv0, gv1, gv2]), (.agg [gv6, (.d (.i .i64 (.ofNat 6)))]), (.d (.i .i64 (.ofNat 2))), (.d (.i .i64 (.ofNat 1)))]
theorem fo28 : factOk tF (374, fa28, (.tup [(.d (.i .i64 (.ofNat 1))), (.d (.i .i64 (.ofNat 3))), (.d (.b true))]), []) := saysK_ok (F := fs28) fh28 (by decide +kernel)
def fs29 : List Fact := (374, fa28, (.tup [(.d (.i .i64 (.ofNat 1))), (.d (.i .i64 (.ofNat 3))), (.d (.b true))]), []) :: fs28
theorem fh29 : ∀ f ∈ fs29, factOk tF f := facts_cons fo28 fh28
def fa29 : List V := [(.agg [gv0, gv1, gv2]), (.agg [gv6, (.d (.i .i64 (.ofNat 6)))]), (.d (.i .i64 (.ofNat 3))), (.d (.i .i64 (.ofNat 1)))]
theorem fo29 : factOk tF (376, fa29, (.d (.l 2 [])), []) := saysK_ok (F := fs29) fh29 (by decide +kernel)
def fs30 : List Fact := (376, fa29, (.d (.l 2 [])), []) :: fs29
theorem fh30 : ∀ f ∈ fs30, factOk tF f := facts_cons fo29 fh29
def fa30 : List V := [(.agg [gv0, gv1, gv2]), (.agg [gv6, (.d (.i .i64 (.ofNat 6)))]), (.d (.i .i64 (.ofNat 2))), (.d (.i .i64 (.ofNat 0)))]
theorem fo30 : factOk tF (374, fa30, (.tup [(.d (.i .i64 (.ofNat 0))), (.d (.i .i64 (.ofNat 0))), (.d (.b true))]), []) := saysK_ok (F := fs30) fh30 (by decide +kernel)
def fs31 : List Fact := (374, fa30, (.tup [(.d (.i .i64 (.ofNat 0))), (.d (.i .i64 (.ofNat 0))), (.d (.b true))]), []) :: fs30
theorem fh31 : ∀ f ∈ fs31, factOk tF f := facts_cons fo30 fh30
def fa31 : List V := [(.agg [gv0, gv1, gv2]), (.agg [gv6, (.d (.i .i64 (.ofNat 6)))]), (.d (.i .i64 (.ofNat 5))), (.d (.i .i64 (.ofNat 2)))]
theorem fo31 : factOk tF (374, fa31, (.tup [(.d (.i .i64 (.ofNat 4))), (.d (.i .i64 (.ofNat 0))), (.d (.b true))]), []) := saysK_ok (F := fs31) fh31 (by decide +kernel)
def fs32 : List Fact := (374, fa31, (.tup [(.d (.i .i64 (.ofNat 4))), (.d (.i .i64 (.ofNat 0))), (.d (.b true))]), []) :: fs31
theorem fh32 : ∀ f ∈ fs32, factOk tF f := facts_cons fo31 fh31
def fa32 : List V := [(.agg [gv0, gv1, gv2]), (.agg [gv6, (.d (.i .i64 (.ofNat 6)))]), (.d (.i .i64 (.ofNat 3))), (.d (.i .i64 (.ofNat 2)))]
theorem fo32 : factOk tF (374, fa32, (.tup [(.d (.i .i64 (.ofNat 2))), (.d (.i .i64 (.ofNat 1))), (.d (.b true))]), []) := saysK_ok (F := fs32) fh32 (by decide +kernel)
def fs33 : List Fact := (374, fa32, (.tup [(.d (.i .i64 (.ofNat 2))), (.d (.i .i64 (.ofNat 1))), (.d (.b true))]), []) :: fs32
theorem fh33 : ∀ f ∈ fs33, factOk tF f := facts_cons fo32 fh32
def fa33 : List V := [(.agg [gv0, gv1, gv2]), (.agg [gv6, (.d (.i .i64 (.ofNat 6)))]), (.d (.i .i64 (.ofNat 3))), (.d (.i .i64 (.ofNat 3)))]
theorem fo33 : factOk tF (374, fa33, (.tup [(.d (.i .i64 (.ofNat 0))), (.d (.i .i64 (.ofNat 0))), (.d (.b false))]), []) := saysK_ok (F := fs33) fh33 (by decide +kernel)
def fs34 : List Fact := (374, fa33, (.tup [(.d (.i .i64 (.ofNat 0))), (.d (.i .i64 (.ofNat 0))), (.d (.b false))]), []) :: fs33
theorem fh34 : ∀ f ∈ fs34, factOk tF f := facts_cons fo33 fh33
def fa34 : List V := [(.agg [gv0, gv1, gv2]), (.agg [gv6, (.d (.i .i64 (.ofNat 6)))]), (.d (.i .i64 (.ofNat 1))), (.d (.i .i64 (.ofNat 1)))]
theorem fo34 : factOk tF (374, fa34, (.tup [(.d (.i .i64 (.ofNat 0))), (.d (.i .i64 (.ofNat 2))), (.d (.b true))]), []) := saysK_ok (F := fs34) fh34 (by decide +kernel)
def fs35 : List Fact := (374, fa34, (.tup [(.d (.i .i64 (.ofNat 0))), (.d (.i .i64 (.ofNat 2))), (.d (.b true))]), []) :: fs34
theorem fh35 : ∀ f ∈ fs35, factOk tF f := facts_cons fo34 fh34
def fa35 : List V := [(.agg [gv0, gv1, gv2]), (.agg [gv6, (.d (.i .i64 (.ofNat 6)))]), (.d (.i .i64 (.ofNat 3))), (.d (.i .i64 (.negSucc 0)))]
theorem fo35 : factOk tF (374, fa35, (.tup [(.d (.i .i64 (.ofNat 0))), (.d (.i .i64 (.ofNat 0))), (.d (.b false))]), []) := saysK_ok (F := fs35) fh35 (by decide +kernel)
def fs36 : List Fact := (374, fa35, (.tup [(.d (.i .i64 (.ofNat 0))), (.d (.i .i64 (.ofNat 0))), (.d (.b false))]), []) :: fs35
theorem fh36 : ∀ f ∈ fs36, factOk tF f := facts_cons fo35 fh35
end
end Ab
