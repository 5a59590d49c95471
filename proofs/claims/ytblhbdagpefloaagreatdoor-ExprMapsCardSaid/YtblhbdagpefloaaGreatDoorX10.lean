/-
 Eval: what is reckoned, as a value of its own.
-/
import Derived.Test.YtblhbdagpefloaaGreatDoorVx18
namespace Ab.Vx
open Go
set_option linter.unusedVariables false
set_option linter.unusedSimpArgs false
set_option maxRecDepth 100000
variable {E : Nat → Option Fn}
theorem Eval_ok (C : EvC E) {vs : List (List GVal)} {ts : List (List UInt8)} (hr : GdR vs ts) {e : Exp} (he : GdE e) :
  lcall E 269 [e.arg, .d (.l 1 (valsRows vs)), .d (.l 1 (ts.map strRow))] [] = some ((evalF vs ts e).arg, []) := by
 have A := C.code
 have h1 := eval_ok' C hr _ e (Nat.lt_succ_self _) he
 have gd := eval_gd hr he
 generalize evalF vs ts e = v at *
 have hl := len_le v
 have hz := gd.size
 have h2 := mine2_ok A.e276 A.e146 (small_sz v (by omega))
 have st := settle_mine (.i .i64 v.kind) (.i .i64 v.i) (.s v.s) v.l (by omega)
 have st2 := st
 rw [settle_ids] at st2
 simp only [mineR] at h2
 refine call_q A.e269 ?_
 simp only [evAll, ↓reduceIte, Nat.reduceEqDiff, Nat.reduceAdd, Nat.reduceLeDiff, reduceCtorEq, c269, h1, h2, st]
end Ab.Vx
