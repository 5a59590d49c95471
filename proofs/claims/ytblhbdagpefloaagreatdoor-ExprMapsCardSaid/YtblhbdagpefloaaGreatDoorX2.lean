/-
 Sums, differences, products.
-/
import Derived.Test.YtblhbdagpefloaaGreatDoorX1
import Derived.Test.YtblhbdagpefloaaGreatDoorXP1
namespace Ab.Vx
open Go
set_option linter.unusedVariables false
set_option linter.unusedSimpArgs false
set_option maxRecDepth 100000
variable {E : Nat → Option Fn}
def sumG (op a b : Int) : GVal :=
 if op = 4 then (if andI (xorI a (W64 (a + b))) (xorI b (W64 (a + b))) < 0 then badG 5 else intG (W64 (a + b)))
 else if op = 5 then (if andI (xorI a b) (xorI a (W64 (a - b))) < 0 then badG 5 else intG (W64 (a - b)))
 else if a = 0 then intG (W64 (a * b)) else if W64 ((W64 (a * b)).tdiv a) = b then (if a = -1 ∧ b = -9223372036854775808 then badG 5 else intG (W64 (a * b))) else badG 5
theorem bitsX (x y : Int) : binOp .xor (.d (.i .i64 x)) (.d (.i .i64 y)) = some (.i .i64 (xorI x y)) := rfl
theorem bitsA (x y : Int) : binOp .and (.d (.i .i64 x)) (.d (.i .i64 y)) = some (.i .i64 (andI x y)) := rfl
theorem sum4_ok (A : XE E) (a b : Int) : lcall E 298 [.d (.i .i64 4), .d (.i .i64 a), .d (.i .i64 b)] [] = some ((sumG 4 a b).arg, []) := by
 have b5 := bad_ok A 5
 refine call_q A.e298 ?_
 unfold sumG W64
 rw [if_pos rfl]
 by_cases h : andI (xorI a (IntKind.i64.wrap (a + b))) (xorI b (IntKind.i64.wrap (a + b))) < 0
 ·rw [if_pos h]
  simp only [evAll, ↓reduceIte, Nat.reduceEqDiff, Nat.reduceAdd, Nat.reduceLeDiff, reduceCtorEq, Int.reduceEq, Int.reduceNeg, c298, bitsX, bitsA, eq_true h, b5]
 ·rw [if_neg h]
  simp only [evAll, ↓reduceIte, Nat.reduceEqDiff, Nat.reduceAdd, Nat.reduceLeDiff, reduceCtorEq, Int.reduceEq, Int.reduceNeg, c298, bitsX, bitsA, h]
  rfl
theorem sum5_ok (A : XE E) (a b : Int) : lcall E 298 [.d (.i .i64 5), .d (.i .i64 a), .d (.i .i64 b)] [] = some ((sumG 5 a b).arg, []) := by
 have b5 := bad_ok A 5
 refine call_q A.e298 ?_
 unfold sumG W64
 rw [if_neg (by decide), if_pos rfl]
 by_cases h : andI (xorI a b) (xorI a (IntKind.i64.wrap (a - b))) < 0
 ·rw [if_pos h]
  simp only [evAll, ↓reduceIte, Nat.reduceEqDiff, Nat.reduceAdd, Nat.reduceLeDiff, reduceCtorEq, Int.reduceEq, Int.reduceNeg, c298, bitsX, bitsA, eq_true h, b5]
 ·rw [if_neg h]
  simp only [evAll, ↓reduceIte, Nat.reduceEqDiff, Nat.reduceAdd, Nat.reduceLeDiff, reduceCtorEq, Int.reduceEq, Int.reduceNeg, c298, bitsX, bitsA, h]
  rfl
theorem sum6_ok (A : XE E) (a b : Int) : lcall E 298 [.d (.i .i64 6), .d (.i .i64 a), .d (.i .i64 b)] [] = some ((sumG 6 a b).arg, []) := by
 have b5 := bad_ok A 5
 refine call_q A.e298 ?_
 unfold sumG W64
 rw [if_neg (by decide), if_neg (by decide)]
 by_cases h0 : a = 0
 ·subst h0
  rw [if_pos rfl]
  simp only [evAll, ↓reduceIte, Nat.reduceEqDiff, Nat.reduceAdd, Nat.reduceLeDiff, reduceCtorEq, Int.reduceEq, Int.reduceNeg, c298]
  rfl
 ·rw [if_neg h0]
  by_cases hq : IntKind.i64.wrap ((IntKind.i64.wrap (a * b)).tdiv a) = b
  ·rw [if_pos hq]
   by_cases e1 : a = -1
   ·by_cases e2 : b = -9223372036854775808
    ·rw [if_pos ⟨e1, e2⟩]
     simp only [evAll, ↓reduceIte, Nat.reduceEqDiff, Nat.reduceAdd, Nat.reduceLeDiff, reduceCtorEq, Int.reduceEq, Int.reduceNeg, c298, h0, eq_true hq, eq_true e1, eq_true e2, b5]
    ·rw [if_neg (fun h => e2 h.2)]
     simp only [evAll, ↓reduceIte, Nat.reduceEqDiff, Nat.reduceAdd, Nat.reduceLeDiff, reduceCtorEq, Int.reduceEq, Int.reduceNeg, c298, h0, eq_true hq, eq_true e1, e2]
     rfl
   ·rw [if_neg (fun h => e1 h.1)]
    simp only [evAll, ↓reduceIte, Nat.reduceEqDiff, Nat.reduceAdd, Nat.reduceLeDiff, reduceCtorEq, Int.reduceEq, Int.reduceNeg, c298, h0, eq_true hq, e1]
    rfl
  ·rw [if_neg hq]
   simp only [evAll, ↓reduceIte, Nat.reduceEqDiff, Nat.reduceAdd, Nat.reduceLeDiff, reduceCtorEq, Int.reduceEq, Int.reduceNeg, c298, h0, hq, b5]
end Ab.Vx
