/-
 Numbers of 64 bits: signs of what is put together bit by bit; products that fit.
-/
import Derived.Test.YtblhbdagpefloaaGreatDoorW1
namespace Ab.Vx
open Go
set_option linter.unusedVariables false
abbrev lo64 : Int := -9223372036854775808
abbrev hi64 : Int := 9223372036854775807
def fits (n : Int) : Prop := lo64 ≤ n ∧ n ≤ hi64
instance (n : Int) : Decidable (fits n) := inferInstanceAs (Decidable (_ ∧ _))
def xorI (x y : Int) : Int := IntKind.i64.wrap (BitVec.ofInt IntKind.i64.bits x ^^^ BitVec.ofInt IntKind.i64.bits y).toNat
def andI (x y : Int) : Int := IntKind.i64.wrap (BitVec.ofInt IntKind.i64.bits x &&& BitVec.ofInt IntKind.i64.bits y).toNat
end Ab.Vx
