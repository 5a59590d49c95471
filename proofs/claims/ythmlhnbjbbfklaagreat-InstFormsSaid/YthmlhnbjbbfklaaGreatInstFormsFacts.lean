/-
 InstForms: what the calls answer, one by one; reckoned by the kernel.
-/
import Derived.Test.YthmlhnbjbbfklaaGreatInstFormsFacts3
namespace Ab
set_option linter.unusedVariables false
set_option maxRecDepth 100000
noncomputable section
def fa36 : List V := [(.agg [gv0, gv1, gv2]), (.agg [gv6, (.d (.i .i64 (.ofNat 6)))]), (.d (.i .i64 (.ofNat 3))), (.d (.i .i64 (.ofNat 1)))]
theorem fo36 : factOk tF (374, fa36, (.tup [(.d (.i .i64 (.ofNat 2))), (.d (.i .i64 (.ofNat 0))), (.d (.b true))]), []) := saysK_ok (F := fs36) fh36 (by decide +kernel)
def fs37 : List Fact := (374, fa36, (.tup [(.d (.i .i64 (.ofNat 2))), (.d (.i .i64 (.ofNat 0))), (.d (.b true))]), []) :: fs36
theorem fh37 : ∀ f ∈ fs37, factOk tF f := facts_cons fo36 fh36
def fa37 : List V := [(.agg [gv0, gv1, gv2]), (.agg [gv6, (.d (.i .i64 (.ofNat 6)))]), (.d (.i .i64 (.ofNat 1))), (.d (.i .i64 (.ofNat 0)))]
theorem fo37 : factOk tF (374, fa37, (.tup [(.d (.i .i64 (.ofNat 0))), (.d (.i .i64 (.ofNat 1))), (.d (.b true))]), []) := saysK_ok (F := fs37) fh37 (by decide +kernel)
def fs38 : List Fact := (374, fa37, (.tup [(.d (.i .i64 (.ofNat 0))), (.d (.i .i64 (.ofNat 1))), (.d (.b true))]), []) :: fs37
theorem fh38 : ∀ f ∈ fs38, factOk tF f := facts_cons fo37 fh37
def fa38 : List V := [(.agg [gv0, gv1, gv2]), (.agg [gv6, (.d (.i .i64 (.ofNat 6)))]), (.d (.i .i64 (.ofNat 6))), (.d (.i .i64 (.ofNat 0)))]
theorem fo38 : factOk tF (374, fa38, (.tup [(.d (.i .i64 (.ofNat 0))), (.d (.i .i64 (.ofNat 0))), (.d (.b false))]), []) := saysK_ok (F := fs38) fh38 (by decide +kernel)
def fs39 : List Fact := (374, fa38, (.tup [(.d (.i .i64 (.ofNat 0))), (.d (.i .i64 (.ofNat 0))), (.d (.b false))]), []) :: fs38
theorem fh39 : ∀ f ∈ fs39, factOk tF f := facts_cons fo38 fh38
def fa39 : List V := [(.agg [gv0, gv1, gv2]), (.agg [gv6, (.d (.i .i64 (.ofNat 6)))]), (.d (.i .i64 (.ofNat 4))), (.d (.i .i64 (.ofNat 0)))]
theorem fo39 : factOk tF (376, fa39, (.d (.l 2 [])), []) := saysK_ok (F := fs39) fh39 (by decide +kernel)
def fs40 : List Fact := (376, fa39, (.d (.l 2 [])), []) :: fs39
theorem fh40 : ∀ f ∈ fs40, factOk tF f := facts_cons fo39 fh39
def fa40 : List V := []
theorem fo40 : factOk tF (366, fa40, (.d (.b true)), []) := saysK_ok (F := fs40) fh40 (by decide +kernel)
def fs41 : List Fact := (366, fa40, (.d (.b true)), []) :: fs40
theorem fh41 : ∀ f ∈ fs41, factOk tF f := facts_cons fo40 fh40
end
end Ab
