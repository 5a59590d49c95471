/-
 Which code stands where; which expressions may be, what they refer to.
-/
import Derived.Test.YtblhbdagpefloaaGreatDoorVx15
import Derived.Test.YtblhbdagpefloaaGreatDoorPack5
namespace Ab.Vx
open Go
set_option linter.unusedVariables false
set_option linter.unusedSimpArgs false
set_option maxRecDepth 100000
variable {E : Nat → Option Fn}
structure XE (E : Nat → Option Fn) : Prop where
 e111 : E 111 = some (.code c111)
 e112 : E 112 = some (.code c112)
 e114 : E 114 = some (.code c114)
 e116 : E 116 = some (.code c116)
 e119 : E 119 = some (.code c119)
 e125 : E 125 = some (.code c125)
 e126 : E 126 = some (.code c126)
 e127 : E 127 = some (.code c127)
 e128 : E 128 = some (.code c128)
 e129 : E 129 = some (.code c129)
 e130 : E 130 = some (.code c130)
 e132 : E 132 = some (.code c132)
 e133 : E 133 = some (.code c133)
 e135 : E 135 = some (.code c135)
 e136 : E 136 = some (.code c136)
 e137 : E 137 = some (.code c137)
 e139 : E 139 = some (.code c139)
 e140 : E 140 = some (.code c140)
 e141 : E 141 = some (.code c141)
 e142 : E 142 = some (.code c142)
 e143 : E 143 = some (.code c143)
 e144 : E 144 = some (.code c144)
 e145 : E 145 = some (.code c145)
 e147 : E 147 = some (.code c147)
 e150 : E 150 = some (.code c150)
 e151 : E 151 = some (.code c151)
 e152 : E 152 = some (.code c152)
 e153 : E 153 = some (.code c153)
 e154 : E 154 = some (.code c154)
 e155 : E 155 = some (.code c155)
 e192 : E 192 = some (.code c192)
 e210 : E 210 = some (.code c210)
 e228 : E 228 = some (.code c228)
 e229 : E 229 = some (.code c229)
 e236 : E 236 = some (.code c236)
 e237 : E 237 = some (.code c237)
 e238 : E 238 = some (.code c238)
 e239 : E 239 = some (.code c239)
 e241 : E 241 = some (.code c241)
 e264 : E 264 = some (.code c264)
 e269 : E 269 = some (.code c269)
 e276 : E 276 = some (.code c276)
 e277 : E 277 = some (.code c277)
 e283 : E 283 = some (.code c283)
 e284 : E 284 = some (.code c284)
 e285 : E 285 = some (.code c285)
 e286 : E 286 = some (.code c286)
 e287 : E 287 = some (.code c287)
 e292 : E 292 = some (.code c292)
 e293 : E 293 = some (.code c293)
 e294 : E 294 = some (.code c294)
 e297 : E 297 = some (.code c297)
 e298 : E 298 = some (.code c298)
 e299 : E 299 = some (.code c299)
 e300 : E 300 = some (.code c300)
 e301 : E 301 = some (.code c301)
 e302 : E 302 = some (.code c302)
 e303 : E 303 = some (.code c303)
 e304 : E 304 = some (.code c304)
 e314 : E 314 = some (.code c314)
 e325 : E 325 = some (.code c325)
 e146 : E 146 = some (.prim (cloneImpl 4 56))
 e134 : E 134 = some (.prim (insImpl))
 e315 : E 315 = some (.prim (delImpl))
 e295 : E 295 = some (.prim (trimImpl))
 e296 : E 296 = some (.prim (parseImpl))
def takesF (op : Int) : Int := if op = 0 then 0 else if op = 1 then 0 else if op = 2 then 0 else if op = 3 then 0 else if op = 21 then 0 else if op = 22 then 0 else if op = 11 then 1 else if op = 15 then 1 else
 if op = 12 then 3 else if op = 16 then 3 else if op = 14 then -1 else if op > 3 ∧ op < 21 then 2 else -2
theorem takes_ok (A : XE E) (op : Int) : lcall E 236 [.d (.i .i64 op)] [] = some (.d (.i .i64 (takesF op)), []) := by
 refine call_q A.e236 ?_
 by_cases h0 : op = 0
 ·subst h0; simp only [evAll, ↓reduceIte, Nat.reduceEqDiff, reduceCtorEq, Int.reduceEq, Int.reduceLT, Int.reduceNeg, c236, takesF]
 by_cases h1 : op = 1
 ·subst h1; simp only [evAll, ↓reduceIte, Nat.reduceEqDiff, reduceCtorEq, Int.reduceEq, Int.reduceLT, Int.reduceNeg, c236, takesF]
 by_cases h2 : op = 2
 ·subst h2; simp only [evAll, ↓reduceIte, Nat.reduceEqDiff, reduceCtorEq, Int.reduceEq, Int.reduceLT, Int.reduceNeg, c236, takesF]
 by_cases h3 : op = 3
 ·subst h3; simp only [evAll, ↓reduceIte, Nat.reduceEqDiff, reduceCtorEq, Int.reduceEq, Int.reduceLT, Int.reduceNeg, c236, takesF]
 by_cases h21 : op = 21
 ·subst h21; simp only [evAll, ↓reduceIte, Nat.reduceEqDiff, reduceCtorEq, Int.reduceEq, Int.reduceLT, Int.reduceNeg, c236, takesF]
 by_cases h22 : op = 22
 ·subst h22; simp only [evAll, ↓reduceIte, Nat.reduceEqDiff, reduceCtorEq, Int.reduceEq, Int.reduceLT, Int.reduceNeg, c236, takesF]
 by_cases h11 : op = 11
 ·subst h11; simp only [evAll, ↓reduceIte, Nat.reduceEqDiff, reduceCtorEq, Int.reduceEq, Int.reduceLT, Int.reduceNeg, c236, takesF]
 by_cases h15 : op = 15
 ·subst h15; simp only [evAll, ↓reduceIte, Nat.reduceEqDiff, reduceCtorEq, Int.reduceEq, Int.reduceLT, Int.reduceNeg, c236, takesF]
 by_cases h12 : op = 12
 ·subst h12; simp only [evAll, ↓reduceIte, Nat.reduceEqDiff, reduceCtorEq, Int.reduceEq, Int.reduceLT, Int.reduceNeg, c236, takesF]
 by_cases h16 : op = 16
 ·subst h16; simp only [evAll, ↓reduceIte, Nat.reduceEqDiff, reduceCtorEq, Int.reduceEq, Int.reduceLT, Int.reduceNeg, c236, takesF]
 by_cases h14 : op = 14
 ·subst h14; simp only [evAll, ↓reduceIte, Nat.reduceEqDiff, reduceCtorEq, Int.reduceEq, Int.reduceLT, Int.reduceNeg, c236, takesF]
 by_cases g1 : op > 3
 ·by_cases g2 : op < 21
  ·simp only [evAll, ↓reduceIte, Nat.reduceEqDiff, reduceCtorEq, Int.reduceNeg, c236, takesF, h0, h1, h2, h3, h21, h22, h11, h15, h12, h16, h14, eq_true g1, eq_true g2, and_self]
  ·simp only [evAll, ↓reduceIte, Nat.reduceEqDiff, reduceCtorEq, Int.reduceNeg, c236, takesF, h0, h1, h2, h3, h21, h22, h11, h15, h12, h16, h14, eq_true g1, g2, and_false]
 ·simp only [evAll, ↓reduceIte, Nat.reduceEqDiff, reduceCtorEq, Int.reduceNeg, c236, takesF, h0, h1, h2, h3, h21, h22, h11, h15, h12, h16, h14, g1, false_and]
theorem arg_lt {x e : Exp} (h : x ∈ e.args) : sizeOf x < sizeOf e := by
 cases e with
 | mk o v oc at_ args =>
  have := List.sizeOf_lt_of_mem (show x ∈ args from h)
  simp only [Exp.mk.sizeOf_spec]
  omega
end Ab.Vx
