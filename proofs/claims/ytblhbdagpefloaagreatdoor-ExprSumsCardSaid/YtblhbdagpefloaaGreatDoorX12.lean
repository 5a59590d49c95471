/-
 ExprSums: sums, differences and products are those of numbers, or told to be too great.
-/
import Derived.Test.YtblhbdagpefloaaGreatDoorX11
namespace Ab.Vx
open Go
set_option linter.unusedVariables false
set_option linter.unusedSimpArgs false
set_option maxRecDepth 100000
set_option maxHeartbeats 2000000
variable {E : Nat → Option Fn}
theorem gdR_nil : GdR [] [] := ⟨fun _ h => (by cases h), fun _ h => (by cases h)⟩
theorem gd_int (n : Int) : Gd (intG n) := ⟨may_int n, by rw [szN_eq]; simp [intG, gF, szL]⟩
theorem gdE_con {v : GVal} (h : Gd v) : GdE (conE v) := .mk (fun _ => h) (fun _ h => (by cases h)) (by simp)
theorem eval_con {vs : List (List GVal)} {ts : List (List UInt8)} {v : GVal} (h : Gd v) : evalF vs ts (conE v) = v := by
 rw [evalF_eq]
 show fitG (coreG vs ts 0 v 0 0 []) = v
 unfold coreG
 have : takesF 0 = 0 := rfl
 rw [if_neg (by rw [this]; simp), if_pos rfl, fit_of h.size]
theorem num_gd (n : Int) : Gd (numG n) := by
 unfold numG
 split
 ·exact gd_int n
 ·exact gd_bad (by decide)
theorem eval_sum {op a b : Int} (ho : op = 4 ∨ op = 5 ∨ op = 6) (ha : fits a) (hb : fits b) : evalF [] [] (doE op [conE (intG a), conE (intG b)]) = numG (if op = 4 then a + b else if op = 5 then a - b else a * b) := by
 obtain ⟨s1, s2, s3⟩ := sum_num ha hb
 rw [evalF_eq]
 show fitG (coreG [] [] op zeroV 0 0 [evalF [] [] (conE (intG a)), evalF [] [] (conE (intG b))]) = _
 rw [eval_con (gd_int a), eval_con (gd_int b)]
 have ht : takesF op = 2 := by rcases ho with rfl | rfl | rfl <;> rfl
 have hc : coreG [] [] op zeroV 0 0 [intG a, intG b] = sumG op a b := by
  unfold coreG
  rw [ht, if_neg (by simp), if_neg (by omega), if_neg (by omega), if_neg (by omega), if_neg (by omega)]
  show restG op [intG a, intG b] = _
  unfold restG
  rw [show firstBad [intG a, intG b] = none from rfl]
  show ofG op [intG a, intG b] = _
  unfold ofG
  rw [if_neg (by omega), if_neg (by omega), if_neg (by omega)]
  show of2G op (intG a) (intG b) = _
  unfold of2G
  rw [if_pos ho, if_pos ⟨rfl, rfl⟩]; rfl
 rw [hc]
 rcases ho with rfl | rfl | rfl
 ·rw [s1, if_pos rfl, fit_of (num_gd _).size]
 ·rw [s2, if_neg (by decide), if_pos rfl, fit_of (num_gd _).size]
 ·rw [s3, if_neg (by decide), if_neg (by decide), fit_of (num_gd _).size]
abbrev rowI (n : Int) : List D := [.i .i64 0, .i .i64 1, .i .i64 n, .s [], .l 4 [], .i .i64 0, .i .i64 0, .l 8 []]
abbrev cellI (n : Int) : V := .agg [.d (.i .i64 0), .d (.i .i64 1), .d (.i .i64 n), .d (.s []), .d (.l 4 []), .d (.i .i64 0), .d (.i .i64 0), .d (.l 8 [])]
abbrev cell2 (op a b : Int) : V := .agg [.d (.i .i64 op), .d (.i .i64 0), .d (.i .i64 0), .d (.s []), .d (.l 4 []), .d (.i .i64 0), .d (.i .i64 0), .d (.l 8 [rowI a, rowI b])]
theorem sums_ok (A : XE E) (e262 : E 262 = some (.code c262)) (e271 : E 271 = some (.code c271)) (e272 : E 272 = some (.code c272)) (hbeg : lcall E 264 [] [] = some (.d (.b true), [])) (a b : Int) (ha : fits a) (hb : fits b) :
  lcall E 262 [.d (.i .i64 a), .d (.i .i64 b)] [] = some (.d (.b true), []) := by
 have C := ev_of A
 have gd : ∀ op, op ≠ 0 → GdE (doE op [conE (intG a), conE (intG b)]) := fun op ho => .mk (fun h => absurd h ho) (fun x hx => by
   rcases List.mem_cons.1 hx with rfl | hx
   ·exact gdE_con (gd_int a)
   ·rcases List.mem_cons.1 hx with rfl | hx
    ·exact gdE_con (gd_int b)
    ·cases hx) (by simp)
 have ka : lcall E 271 [.agg [.d (.i .i64 1), .d (.i .i64 a), .d (.s []), .d (.l 4 [])]] [] = some (cellI a, []) := con_ok e271 (intG a)
 have kb : lcall E 271 [.agg [.d (.i .i64 1), .d (.i .i64 b), .d (.s []), .d (.l 4 [])]] [] = some (cellI b, []) := con_ok e271 (intG b)
 have d4 : lcall E 272 [.d (.i .i64 4), .d (.l 8 [rowI a, rowI b])] [] = some (cell2 4 a b, []) := do_ok e272 4 [conE (intG a), conE (intG b)]
 have d5 : lcall E 272 [.d (.i .i64 5), .d (.l 8 [rowI a, rowI b])] [] = some (cell2 5 a b, []) := do_ok e272 5 [conE (intG a), conE (intG b)]
 have d6 : lcall E 272 [.d (.i .i64 6), .d (.l 8 [rowI a, rowI b])] [] = some (cell2 6 a b, []) := do_ok e272 6 [conE (intG a), conE (intG b)]
 have v4 : lcall E 269 [cell2 4 a b, .d (.l 1 []), .d (.l 1 [])] [] = some ((evalF [] [] (doE 4 [conE (intG a), conE (intG b)])).arg, []) := Eval_ok C gdR_nil (gd 4 (by decide))
 have v5 : lcall E 269 [cell2 5 a b, .d (.l 1 []), .d (.l 1 [])] [] = some ((evalF [] [] (doE 5 [conE (intG a), conE (intG b)])).arg, []) := Eval_ok C gdR_nil (gd 5 (by decide))
 have v6 : lcall E 269 [cell2 6 a b, .d (.l 1 []), .d (.l 1 [])] [] = some ((evalF [] [] (doE 6 [conE (intG a), conE (intG b)])).arg, []) := Eval_ok C gdR_nil (gd 6 (by decide))
 rw [eval_sum (.inl rfl) ha hb, if_pos rfl] at v4
 rw [eval_sum (.inr (.inl rfl)) ha hb, if_neg (by decide), if_pos rfl] at v5
 rw [eval_sum (.inr (.inr rfl)) ha hb, if_neg (by decide), if_neg (by decide)] at v6
 by_cases h0 : a = 0
 ·have hp : fits (a * b) := by rw [h0, Int.zero_mul]; decide
  rw [show numG (a * b) = intG (a * b) from if_pos hp] at v6
  have wp := wrap_of hp
  by_cases hs : decide (a < 0) = decide (b < 0)
  ·have hs' : (a < 0) ↔ (b < 0) := by simpa using hs
   have hd : fits (a - b) := by unfold fits at *; simp only [lo64, hi64] at *; omega
   rw [show numG (a - b) = intG (a - b) from if_pos hd] at v5
   have wd := wrap_of hd
   by_cases hf : fits (a + b)
   ·rw [show numG (a + b) = intG (a + b) from if_pos hf] at v4
    have wf := wrap_of hf
    have hw : decide (a + b < 0) = decide (a < 0) := by rw [decide_eq_decide]; omega
    refine call_q e262 ?_
    simp only [evAll, ↓reduceIte, Nat.reduceEqDiff, Nat.reduceAdd, Nat.reduceLeDiff, Nat.reduceLT, reduceCtorEq, Int.reduceEq, Int.reduceNeg, c262, hbeg, ka, kb, d4, d5, d6, v4, v5, v6, intG, gF, eq_true hs, wd, wf, eq_true hw, wp, eq_true h0]
    rfl
   ·rw [show numG (a + b) = badG 5 from if_neg hf] at v4
    have hw : ¬ decide (IntKind.i64.wrap (a + b) < 0) = decide (a < 0) := by
     rw [decide_eq_decide, IntKind.wrap_i64]
     unfold fits at *; simp only [lo64, hi64] at *; omega
    refine call_q e262 ?_
    simp only [evAll, ↓reduceIte, Nat.reduceEqDiff, Nat.reduceAdd, Nat.reduceLeDiff, Nat.reduceLT, reduceCtorEq, Int.reduceEq, Int.reduceNeg, c262, hbeg, ka, kb, d4, d5, d6, v4, v5, v6, intG, badG, gF, eq_true hs, wd, hw, wp, eq_true h0]
    rfl
  ·have hs' : ¬ ((a < 0) ↔ (b < 0)) := by simpa using hs
   have hf : fits (a + b) := by unfold fits at *; simp only [lo64, hi64] at *; omega
   rw [show numG (a + b) = intG (a + b) from if_pos hf] at v4
   have wf := wrap_of hf
   by_cases hd : fits (a - b)
   ·rw [show numG (a - b) = intG (a - b) from if_pos hd] at v5
    have wd := wrap_of hd
    have hw : decide (a - b < 0) = decide (a < 0) := by rw [decide_eq_decide]; omega
    refine call_q e262 ?_
    simp only [evAll, ↓reduceIte, Nat.reduceEqDiff, Nat.reduceAdd, Nat.reduceLeDiff, Nat.reduceLT, reduceCtorEq, Int.reduceEq, Int.reduceNeg, c262, hbeg, ka, kb, d4, d5, d6, v4, v5, v6, intG, gF, hs, wd, wf, eq_true hw, wp, eq_true h0]
    rfl
   ·rw [show numG (a - b) = badG 5 from if_neg hd] at v5
    have hw : ¬ decide (IntKind.i64.wrap (a - b) < 0) = decide (a < 0) := by
     rw [decide_eq_decide, IntKind.wrap_i64]
     unfold fits at *; simp only [lo64, hi64] at *; omega
    refine call_q e262 ?_
    simp only [evAll, ↓reduceIte, Nat.reduceEqDiff, Nat.reduceAdd, Nat.reduceLeDiff, Nat.reduceLT, reduceCtorEq, Int.reduceEq, Int.reduceNeg, c262, hbeg, ka, kb, d4, d5, d6, v4, v5, v6, intG, badG, gF, hs, wf, hw, wp, eq_true h0]
    rfl
 by_cases hp : fits (a * b)
 ·rw [show numG (a * b) = intG (a * b) from if_pos hp] at v6
  have wp := wrap_of hp
  have hm : (a * b).tmod a = 0 := Int.mul_tmod_right a b
  have hq : IntKind.i64.wrap ((a * b).tdiv a) = b := by rw [Int.mul_tdiv_cancel_left _ h0, wrap_of hb]
  by_cases hs : decide (a < 0) = decide (b < 0)
  ·have hs' : (a < 0) ↔ (b < 0) := by simpa using hs
   have hd : fits (a - b) := by unfold fits at *; simp only [lo64, hi64] at *; omega
   rw [show numG (a - b) = intG (a - b) from if_pos hd] at v5
   have wd := wrap_of hd
   by_cases hf : fits (a + b)
   ·rw [show numG (a + b) = intG (a + b) from if_pos hf] at v4
    have wf := wrap_of hf
    have hw : decide (a + b < 0) = decide (a < 0) := by rw [decide_eq_decide]; omega
    refine call_q e262 ?_
    simp only [evAll, ↓reduceIte, Nat.reduceEqDiff, Nat.reduceAdd, Nat.reduceLeDiff, Nat.reduceLT, reduceCtorEq, Int.reduceEq, Int.reduceNeg, c262, hbeg, ka, kb, d4, d5, d6, v4, v5, v6, intG, gF, eq_true hs, wd, wf, eq_true hw, wp, h0, hm, hq]
    rfl
   ·rw [show numG (a + b) = badG 5 from if_neg hf] at v4
    have hw : ¬ decide (IntKind.i64.wrap (a + b) < 0) = decide (a < 0) := by
     rw [decide_eq_decide, IntKind.wrap_i64]
     unfold fits at *; simp only [lo64, hi64] at *; omega
    refine call_q e262 ?_
    simp only [evAll, ↓reduceIte, Nat.reduceEqDiff, Nat.reduceAdd, Nat.reduceLeDiff, Nat.reduceLT, reduceCtorEq, Int.reduceEq, Int.reduceNeg, c262, hbeg, ka, kb, d4, d5, d6, v4, v5, v6, intG, badG, gF, eq_true hs, wd, hw, wp, h0, hm, hq]
    rfl
  ·have hs' : ¬ ((a < 0) ↔ (b < 0)) := by simpa using hs
   have hf : fits (a + b) := by unfold fits at *; simp only [lo64, hi64] at *; omega
   rw [show numG (a + b) = intG (a + b) from if_pos hf] at v4
   have wf := wrap_of hf
   by_cases hd : fits (a - b)
   ·rw [show numG (a - b) = intG (a - b) from if_pos hd] at v5
    have wd := wrap_of hd
    have hw : decide (a - b < 0) = decide (a < 0) := by rw [decide_eq_decide]; omega
    refine call_q e262 ?_
    simp only [evAll, ↓reduceIte, Nat.reduceEqDiff, Nat.reduceAdd, Nat.reduceLeDiff, Nat.reduceLT, reduceCtorEq, Int.reduceEq, Int.reduceNeg, c262, hbeg, ka, kb, d4, d5, d6, v4, v5, v6, intG, gF, hs, wd, wf, eq_true hw, wp, h0, hm, hq]
    rfl
   ·rw [show numG (a - b) = badG 5 from if_neg hd] at v5
    have hw : ¬ decide (IntKind.i64.wrap (a - b) < 0) = decide (a < 0) := by
     rw [decide_eq_decide, IntKind.wrap_i64]
     unfold fits at *; simp only [lo64, hi64] at *; omega
    refine call_q e262 ?_
    simp only [evAll, ↓reduceIte, Nat.reduceEqDiff, Nat.reduceAdd, Nat.reduceLeDiff, Nat.reduceLT, reduceCtorEq, Int.reduceEq, Int.reduceNeg, c262, hbeg, ka, kb, d4, d5, d6, v4, v5, v6, intG, badG, gF, hs, wf, hw, wp, h0, hm, hq]
    rfl
 ·rw [show numG (a * b) = badG 5 from if_neg hp] at v6
  have hb0 : ¬ b = 0 := fun e => hp (by rw [e, Int.mul_zero]; decide)
  have mo := mul_over hb ha hb0
  rw [Int.mul_comm b a, decide_eq_false hp, Bool.not_false] at mo
  by_cases e1 : a = -1
  ·by_cases e2 : b = -9223372036854775808
   ·by_cases hs : decide (a < 0) = decide (b < 0)
    ·have hs' : (a < 0) ↔ (b < 0) := by simpa using hs
     have hd : fits (a - b) := by unfold fits at *; simp only [lo64, hi64] at *; omega
     rw [show numG (a - b) = intG (a - b) from if_pos hd] at v5
     have wd := wrap_of hd
     by_cases hf : fits (a + b)
     ·rw [show numG (a + b) = intG (a + b) from if_pos hf] at v4
      have wf := wrap_of hf
      have hw : decide (a + b < 0) = decide (a < 0) := by rw [decide_eq_decide]; omega
      refine call_q e262 ?_
      simp only [evAll, ↓reduceIte, Nat.reduceEqDiff, Nat.reduceAdd, Nat.reduceLeDiff, Nat.reduceLT, reduceCtorEq, Int.reduceEq, Int.reduceNeg, c262, hbeg, ka, kb, d4, d5, d6, v4, v5, v6, intG, badG, gF, eq_true hs, wd, wf, eq_true hw, h0, hb0, eq_true e1, eq_true e2]
      rfl
     ·rw [show numG (a + b) = badG 5 from if_neg hf] at v4
      have hw : ¬ decide (IntKind.i64.wrap (a + b) < 0) = decide (a < 0) := by
       rw [decide_eq_decide, IntKind.wrap_i64]
       unfold fits at *; simp only [lo64, hi64] at *; omega
      refine call_q e262 ?_
      simp only [evAll, ↓reduceIte, Nat.reduceEqDiff, Nat.reduceAdd, Nat.reduceLeDiff, Nat.reduceLT, reduceCtorEq, Int.reduceEq, Int.reduceNeg, c262, hbeg, ka, kb, d4, d5, d6, v4, v5, v6, intG, badG, gF, eq_true hs, wd, hw, h0, hb0, eq_true e1, eq_true e2]
      rfl
    ·have hs' : ¬ ((a < 0) ↔ (b < 0)) := by simpa using hs
     have hf : fits (a + b) := by unfold fits at *; simp only [lo64, hi64] at *; omega
     rw [show numG (a + b) = intG (a + b) from if_pos hf] at v4
     have wf := wrap_of hf
     by_cases hd : fits (a - b)
     ·rw [show numG (a - b) = intG (a - b) from if_pos hd] at v5
      have wd := wrap_of hd
      have hw : decide (a - b < 0) = decide (a < 0) := by rw [decide_eq_decide]; omega
      refine call_q e262 ?_
      simp only [evAll, ↓reduceIte, Nat.reduceEqDiff, Nat.reduceAdd, Nat.reduceLeDiff, Nat.reduceLT, reduceCtorEq, Int.reduceEq, Int.reduceNeg, c262, hbeg, ka, kb, d4, d5, d6, v4, v5, v6, intG, badG, gF, hs, wd, wf, eq_true hw, h0, hb0, eq_true e1, eq_true e2]
      rfl
     ·rw [show numG (a - b) = badG 5 from if_neg hd] at v5
      have hw : ¬ decide (IntKind.i64.wrap (a - b) < 0) = decide (a < 0) := by
       rw [decide_eq_decide, IntKind.wrap_i64]
       unfold fits at *; simp only [lo64, hi64] at *; omega
      refine call_q e262 ?_
      simp only [evAll, ↓reduceIte, Nat.reduceEqDiff, Nat.reduceAdd, Nat.reduceLeDiff, Nat.reduceLT, reduceCtorEq, Int.reduceEq, Int.reduceNeg, c262, hbeg, ka, kb, d4, d5, d6, v4, v5, v6, intG, badG, gF, hs, wf, hw, h0, hb0, eq_true e1, eq_true e2]
      rfl
   ·exfalso
    refine hp ?_
    unfold fits at *
    simp only [lo64, hi64] at *
    subst e1
    omega
  ·by_cases e3 : b = -1
   ·by_cases e4 : a = -9223372036854775808
    ·by_cases hs : decide (a < 0) = decide (b < 0)
     ·have hs' : (a < 0) ↔ (b < 0) := by simpa using hs
      have hd : fits (a - b) := by unfold fits at *; simp only [lo64, hi64] at *; omega
      rw [show numG (a - b) = intG (a - b) from if_pos hd] at v5
      have wd := wrap_of hd
      by_cases hf : fits (a + b)
      ·rw [show numG (a + b) = intG (a + b) from if_pos hf] at v4
       have wf := wrap_of hf
       have hw : decide (a + b < 0) = decide (a < 0) := by rw [decide_eq_decide]; omega
       refine call_q e262 ?_
       simp only [evAll, ↓reduceIte, Nat.reduceEqDiff, Nat.reduceAdd, Nat.reduceLeDiff, Nat.reduceLT, reduceCtorEq, Int.reduceEq, Int.reduceNeg, c262, hbeg, ka, kb, d4, d5, d6, v4, v5, v6, intG, badG, gF, eq_true hs, wd, wf, eq_true hw, h0, hb0, e1, eq_true e3, eq_true e4]
       rfl
      ·rw [show numG (a + b) = badG 5 from if_neg hf] at v4
       have hw : ¬ decide (IntKind.i64.wrap (a + b) < 0) = decide (a < 0) := by
        rw [decide_eq_decide, IntKind.wrap_i64]
        unfold fits at *; simp only [lo64, hi64] at *; omega
       refine call_q e262 ?_
       simp only [evAll, ↓reduceIte, Nat.reduceEqDiff, Nat.reduceAdd, Nat.reduceLeDiff, Nat.reduceLT, reduceCtorEq, Int.reduceEq, Int.reduceNeg, c262, hbeg, ka, kb, d4, d5, d6, v4, v5, v6, intG, badG, gF, eq_true hs, wd, hw, h0, hb0, e1, eq_true e3, eq_true e4]
       rfl
     ·have hs' : ¬ ((a < 0) ↔ (b < 0)) := by simpa using hs
      have hf : fits (a + b) := by unfold fits at *; simp only [lo64, hi64] at *; omega
      rw [show numG (a + b) = intG (a + b) from if_pos hf] at v4
      have wf := wrap_of hf
      by_cases hd : fits (a - b)
      ·rw [show numG (a - b) = intG (a - b) from if_pos hd] at v5
       have wd := wrap_of hd
       have hw : decide (a - b < 0) = decide (a < 0) := by rw [decide_eq_decide]; omega
       refine call_q e262 ?_
       simp only [evAll, ↓reduceIte, Nat.reduceEqDiff, Nat.reduceAdd, Nat.reduceLeDiff, Nat.reduceLT, reduceCtorEq, Int.reduceEq, Int.reduceNeg, c262, hbeg, ka, kb, d4, d5, d6, v4, v5, v6, intG, badG, gF, hs, wd, wf, eq_true hw, h0, hb0, e1, eq_true e3, eq_true e4]
       rfl
      ·rw [show numG (a - b) = badG 5 from if_neg hd] at v5
       have hw : ¬ decide (IntKind.i64.wrap (a - b) < 0) = decide (a < 0) := by
        rw [decide_eq_decide, IntKind.wrap_i64]
        unfold fits at *; simp only [lo64, hi64] at *; omega
       refine call_q e262 ?_
       simp only [evAll, ↓reduceIte, Nat.reduceEqDiff, Nat.reduceAdd, Nat.reduceLeDiff, Nat.reduceLT, reduceCtorEq, Int.reduceEq, Int.reduceNeg, c262, hbeg, ka, kb, d4, d5, d6, v4, v5, v6, intG, badG, gF, hs, wf, hw, h0, hb0, e1, eq_true e3, eq_true e4]
       rfl
    ·exfalso
     refine hp ?_
     unfold fits at *
     simp only [lo64, hi64] at *
     subst e3
     omega
   ·have hq : ¬ IntKind.i64.wrap ((IntKind.i64.wrap (a * b)).tdiv b) = a := fun e => by
     rw [decide_eq_true e, decide_eq_false e3] at mo
     cases mo
    by_cases hs : decide (a < 0) = decide (b < 0)
    ·have hs' : (a < 0) ↔ (b < 0) := by simpa using hs
     have hd : fits (a - b) := by unfold fits at *; simp only [lo64, hi64] at *; omega
     rw [show numG (a - b) = intG (a - b) from if_pos hd] at v5
     have wd := wrap_of hd
     by_cases hf : fits (a + b)
     ·rw [show numG (a + b) = intG (a + b) from if_pos hf] at v4
      have wf := wrap_of hf
      have hw : decide (a + b < 0) = decide (a < 0) := by rw [decide_eq_decide]; omega
      refine call_q e262 ?_
      simp only [evAll, ↓reduceIte, Nat.reduceEqDiff, Nat.reduceAdd, Nat.reduceLeDiff, Nat.reduceLT, reduceCtorEq, Int.reduceEq, Int.reduceNeg, c262, hbeg, ka, kb, d4, d5, d6, v4, v5, v6, intG, badG, gF, eq_true hs, wd, wf, eq_true hw, h0, hb0, e1, e3, hq]
      rfl
     ·rw [show numG (a + b) = badG 5 from if_neg hf] at v4
      have hw : ¬ decide (IntKind.i64.wrap (a + b) < 0) = decide (a < 0) := by
       rw [decide_eq_decide, IntKind.wrap_i64]
       unfold fits at *; simp only [lo64, hi64] at *; omega
      refine call_q e262 ?_
      simp only [evAll, ↓reduceIte, Nat.reduceEqDiff, Nat.reduceAdd, Nat.reduceLeDiff, Nat.reduceLT, reduceCtorEq, Int.reduceEq, Int.reduceNeg, c262, hbeg, ka, kb, d4, d5, d6, v4, v5, v6, intG, badG, gF, eq_true hs, wd, hw, h0, hb0, e1, e3, hq]
      rfl
    ·have hs' : ¬ ((a < 0) ↔ (b < 0)) := by simpa using hs
     have hf : fits (a + b) := by unfold fits at *; simp only [lo64, hi64] at *; omega
     rw [show numG (a + b) = intG (a + b) from if_pos hf] at v4
     have wf := wrap_of hf
     by_cases hd : fits (a - b)
     ·rw [show numG (a - b) = intG (a - b) from if_pos hd] at v5
      have wd := wrap_of hd
      have hw : decide (a - b < 0) = decide (a < 0) := by rw [decide_eq_decide]; omega
      refine call_q e262 ?_
      simp only [evAll, ↓reduceIte, Nat.reduceEqDiff, Nat.reduceAdd, Nat.reduceLeDiff, Nat.reduceLT, reduceCtorEq, Int.reduceEq, Int.reduceNeg, c262, hbeg, ka, kb, d4, d5, d6, v4, v5, v6, intG, badG, gF, hs, wd, wf, eq_true hw, h0, hb0, e1, e3, hq]
      rfl
     ·rw [show numG (a - b) = badG 5 from if_neg hd] at v5
      have hw : ¬ decide (IntKind.i64.wrap (a - b) < 0) = decide (a < 0) := by
       rw [decide_eq_decide, IntKind.wrap_i64]
       unfold fits at *; simp only [lo64, hi64] at *; omega
      refine call_q e262 ?_
      simp only [evAll, ↓reduceIte, Nat.reduceEqDiff, Nat.reduceAdd, Nat.reduceLeDiff, Nat.reduceLT, reduceCtorEq, Int.reduceEq, Int.reduceNeg, c262, hbeg, ka, kb, d4, d5, d6, v4, v5, v6, intG, badG, gF, hs, wf, hw, h0, hb0, e1, e3, hq]
      rfl
end Ab.Vx
