/-
 Values, and the rows of bytes that choices are read from.
-/
import Derived.Test.YtblhbdagpefloaaGreatDoorXCode
import Derived.Test.YtblhbdagpefloaaGreatDoorG0
import Derived.Test.YtblhbdagpefloaaGreatDoorPack4
namespace Ab.Vx
open Go
set_option linter.unusedVariables false
theorem _root_.Ab.GVal.eta (v : GVal) : GVal.mk v.kind v.i v.s v.l = v := by cases v; rfl
theorem row_eq (v : GVal) : v.row = [.i .i64 v.kind, .i .i64 v.i, .s v.s, .l 4 (gvalRows v.l)] := by cases v; rfl
theorem gvalRows_length (l : List GVal) : (gvalRows l).length = l.length := by rw [gvalRows_eq, List.length_map]
theorem gvalRows_get (l : List GVal) (i : Nat) : (gvalRows l)[i]? = (l[i]?).map GVal.row := by rw [gvalRows_eq, List.getElem?_map]
theorem i64_in {n : Int} (h1 : -9223372036854775808 ≤ n) (h2 : n ≤ 9223372036854775807) : IntKind.i64.wrap n = n := Go.IntWalk.i64_in n ⟨h1, h2⟩
end Ab.Vx
