/-
 What eval leans on.
-/
import Derived.Test.YtblhbdagpefloaaGreatDoorX10
namespace Ab.Vx
open Go
set_option linter.unusedVariables false
set_option linter.unusedSimpArgs false
set_option maxRecDepth 100000
variable {E : Nat → Option Fn}
theorem cmp_of (A : XE E) : ∀ (a b : GVal), Small a → Small b → lcall E 114 [a.arg, b.arg] [] = some (.d (.i .i64 (cmpV a b)), []) :=
 cmp_ok A.e114 A.e126 A.e130 (cmp127 A.e143 A.e127) (cmp128 A.e144 A.e128) (cmp129 A.e145 A.e129)
theorem ev_of (A : XE E) : EvC E where
 code := A
 cmp := cmp_of A
 ins := fun l v hl hs hv hch => ins116_ok A.e116 A.e133 A.e147 A.e134 (fun v hv => mine_ok (v := v) A.e132 A.e146 hv) (cmp_of A) hl hs hv hch
 find := fun l k hl hch hne => find_ok A.e119 A.e135 A.e150 (find1_ok A.e136 (fun v => key_ok A.e137 rfl v) (cmp129 A.e145 A.e129)) hl hch hne k
 size := fun v h hz => by have := size_ok A.e112 v h; rwa [sizeV_fit v (by omega)] at this
end Ab.Vx
