/-
 What expr makes of values: texts and rows joined, lengths, sets, references, texts of tokens, choices of truths.
-/
import Derived.Test.YtblhbdagpefloaaGreatDoorX3
namespace Ab.Vx
open Go
set_option linter.unusedVariables false
set_option linter.unusedSimpArgs false
set_option maxRecDepth 100000
variable {E : Nat → Option Fn}
theorem szN_pos (v : GVal) : 1 ≤ szN v := by rw [szN_eq]; omega
theorem len_szL : ∀ (l : List GVal), l.length ≤ szL l
 | [] => by simp [szL]
 | x :: r => by
  have := len_szL r
  have := szN_pos x
  simp only [szL, List.length_cons]; omega
theorem szL_le (v : GVal) : szL v.l ≤ szN v := by rw [szN_eq]; omega
theorem len_le (v : GVal) : v.l.length ≤ szN v := Nat.le_trans (len_szL _) (szL_le v)
theorem s_le (v : GVal) : v.s.length ≤ 16 * szN v := by rw [szN_eq]; omega
theorem small_sz : ∀ (v : GVal), szN v ≤ 1000 → Small v := valInd fun v ih h => by
 have hl := len_le v
 have : Small (.mk v.kind v.i v.s v.l) := small_mk (by omega) fun x hx => ih x hx (by have := szL_mem hx; have := szL_le v; omega)
 rwa [GVal.eta] at this
theorem rows_len (l : List GVal) : ∀ r ∈ gvalRows l, r.length ≤ 20 := fun r hr => by
 rw [gvalRows_eq] at hr
 obtain ⟨x, _, rfl⟩ := List.mem_map.1 hr
 rw [row_eq]; simp
def lengthG (v : GVal) : GVal := if v.kind = 3 then intG v.s.length else if v.kind = 4 ∨ v.kind = 5 ∨ v.kind = 6 then intG v.l.length else badG 4
theorem length_ok (A : XE E) (v : GVal) : lcall E 302 [v.arg] [] = some ((lengthG v).arg, []) := by
 have b4 := bad_ok A 4
 refine call_q A.e302 ?_
 unfold lengthG
 by_cases h3 : v.kind = 3
 ·rw [if_pos h3]
  simp only [evAll, ↓reduceIte, Nat.reduceEqDiff, Nat.reduceAdd, Nat.reduceLeDiff, c302, eq_true h3]
  rfl
 rw [if_neg h3]
 by_cases h4 : v.kind = 4
 ·rw [if_pos (.inl h4)]
  simp only [evAll, ↓reduceIte, Nat.reduceEqDiff, Nat.reduceAdd, Nat.reduceLeDiff, c302, h3, eq_true h4, gvalRows_length]
  rfl
 by_cases h5 : v.kind = 5
 ·rw [if_pos (.inr (.inl h5))]
  simp only [evAll, ↓reduceIte, Nat.reduceEqDiff, Nat.reduceAdd, Nat.reduceLeDiff, c302, h3, h4, eq_true h5, gvalRows_length]
  rfl
 by_cases h6 : v.kind = 6
 ·rw [if_pos (.inr (.inr h6))]
  simp only [evAll, ↓reduceIte, Nat.reduceEqDiff, Nat.reduceAdd, Nat.reduceLeDiff, c302, h3, h4, h5, eq_true h6, gvalRows_length]
  rfl
 ·rw [if_neg (by omega)]
  simp only [evAll, ↓reduceIte, Nat.reduceEqDiff, Nat.reduceAdd, Nat.reduceLeDiff, c302, h3, h4, h5, h6, b4]
def catG (a b : GVal) : GVal := if a.kind ≠ b.kind ∨ a.kind ≠ 3 ∧ a.kind ≠ 4 then badG 4 else .mk a.kind 0 (a.s ++ b.s) (a.l ++ b.l)
theorem cat_ok (A : XE E) {a b : GVal} (ha : szN a ≤ 500) (hb : szN b ≤ 500) : lcall E 301 [a.arg, b.arg] [] = some ((catG a b).arg, []) := by
 have b4 := bad_ok A 4
 have la := len_le a
 have lb := len_le b
 have sa := s_le a
 have sb := s_le b
 obtain ⟨v, c1⟩ := concat_ok A (R1 := gvalRows a.l) (R2 := gvalRows b.l) (by rw [gvalRows_length]; omega) (by rw [gvalRows_length]; omega)
 rw [← gvalRows_append] at c1
 have c2 : setl1 0 (.arr 0 v 0 (gvalRows (a.l ++ b.l)).length) [some (.arr v 4 ((gvalRows (a.l ++ b.l)).map ofDs))] [0] = some (.d (.l 4 (gvalRows (a.l ++ b.l))), []) :=
  settle_arr rfl (rows_len _) (by rw [gvalRows_length, List.length_append]; omega)
 have hs : a.s.length + b.s.length ≤ 4611686018427387904 := by omega
 refine call_q A.e301 ?_
 unfold catG
 by_cases h : a.kind = b.kind
 ·by_cases h3 : a.kind = 3
  ·rw [if_neg (by omega)]
   simp only [evAll, ↓reduceIte, Nat.reduceEqDiff, Nat.reduceAdd, Nat.reduceLeDiff, Nat.reduceLT, reduceCtorEq, c301, eq_true h, eq_true h3, hs, c1, c2]
   exact ⟨by rfl, rfl⟩
  ·by_cases h4 : a.kind = 4
   ·rw [if_neg (by omega)]
    simp only [evAll, ↓reduceIte, Nat.reduceEqDiff, Nat.reduceAdd, Nat.reduceLeDiff, Nat.reduceLT, reduceCtorEq, c301, eq_true h, h3, eq_true h4, hs, c1, c2]
    exact ⟨by rfl, rfl⟩
   ·rw [if_pos (.inr ⟨h3, h4⟩)]
    simp only [evAll, ↓reduceIte, Nat.reduceEqDiff, Nat.reduceAdd, Nat.reduceLeDiff, reduceCtorEq, c301, eq_true h, h3, h4, b4]
 ·rw [if_pos (.inl h)]
  simp only [evAll, ↓reduceIte, Nat.reduceEqDiff, Nat.reduceAdd, Nat.reduceLeDiff, reduceCtorEq, c301, h, b4]
def logicG (op : Int) (a b : GVal) : GVal := if op = 11 then (if a.kind = 2 then boolG (decide (a.i = 0)) else badG 4) else if a.kind = 2 ∧ b.kind = 2 then boolG (if op = 9 then !decide (a.i = 0) && !decide (b.i = 0) else !decide (a.i = 0) || !decide (b.i = 0)) else badG 4
theorem kr1 : kindRows [2] = [[.i .i64 2]] := rfl
theorem kr2 (a b : Int) : kindRows [a, b] = [[.i .i64 a], [.i .i64 b]] := rfl
theorem not_ok (A : XE E) (a : GVal) : lcall E 300 [.d (.i .i64 11), .d (.l 4 [a.row])] [] = some ((logicG 11 a a).arg, []) := by
 have b4 := bad_ok A 4
 have t1 := takes_ok A 11
 have k1 := kinds_ok A (l := [a]) (ws := [2]) (by simp) (by simp)
 have b1 : bounds none (some (.d (.i .i64 1))) 1 = some (0, 1) := rfl
 have m1 : maxInt true [.d (.i .i64 1), .d (.i .i64 1)] = some (.i .i64 1) := rfl
 have k11 : takesF 11 = 1 := rfl
 rw [kr1] at k1
 simp only [gvalRows, kindsB, Bool.and_true, row_eq] at k1
 rw [k11] at t1
 rw [row_eq]
 refine call_q A.e300 ?_
 unfold logicG
 rw [if_pos rfl]
 by_cases h : a.kind = 2
 ·rw [if_pos h]
  rw [decide_eq_true h] at k1
  have tr := truth_ok A (decide (a.i = 0))
  simp only [evAll, ↓reduceIte, Nat.reduceEqDiff, Nat.reduceAdd, Nat.reduceLeDiff, Nat.reduceLT, reduceCtorEq, Int.reduceEq, Int.reduceLE, Int.reduceToNat, c300, t1, m1, b1, k1, tr]
 ·rw [if_neg h]
  rw [decide_eq_false h] at k1
  simp only [evAll, ↓reduceIte, Nat.reduceEqDiff, Nat.reduceAdd, Nat.reduceLeDiff, Nat.reduceLT, reduceCtorEq, Int.reduceEq, Int.reduceLE, Int.reduceToNat, c300, t1, m1, b1, k1, b4]
theorem and_ok (A : XE E) (op : Int) (hop : op = 9 ∨ op = 10) (a b : GVal) : lcall E 300 [.d (.i .i64 op), .d (.l 4 [a.row, b.row])] [] = some ((logicG op a b).arg, []) := by
 have b4 := bad_ok A 4
 have t1 := takes_ok A op
 have k1 := kinds_ok A (l := [a, b]) (ws := [2]) (by simp) (by simp)
 have k2 := kinds_ok A (l := [a, b]) (ws := [2, 2]) (by simp) (by simp)
 have b1 : bounds none (some (.d (.i .i64 2))) 2 = some (0, 2) := rfl
 have m1 : maxInt true [.d (.i .i64 2), .d (.i .i64 1)] = some (.i .i64 2) := rfl
 have hk : takesF op = 2 := by rcases hop with rfl | rfl <;> rfl
 have h11 : ¬ op = 11 := by omega
 rw [kr1] at k1
 rw [kr2] at k2
 simp only [gvalRows, kindsB, Bool.and_true, row_eq] at k1 k2
 rw [hk] at t1
 rw [row_eq, row_eq]
 refine call_q A.e300 ?_
 unfold logicG
 rw [if_neg h11]
 by_cases h : a.kind = 2
 ·rw [decide_eq_true h] at k1 k2
  rw [Bool.true_and] at k2
  by_cases h2 : b.kind = 2
  ·rw [decide_eq_true h2] at k2
   rw [if_pos ⟨h, h2⟩]
   have tr := truth_ok A (if op = 9 then !decide (a.i = 0) && !decide (b.i = 0) else !decide (a.i = 0) || !decide (b.i = 0))
   rcases hop with rfl | rfl
   ·simp only [if_true] at tr ⊢
    by_cases ha : a.i = 0
    ·simp only [decide_eq_true ha, Bool.not_true, Bool.false_and] at tr ⊢
     simp only [evAll, ↓reduceIte, Nat.reduceEqDiff, Nat.reduceAdd, Nat.reduceLeDiff, Nat.reduceLT, reduceCtorEq, Int.reduceEq, Int.reduceLE, Int.reduceToNat, c300, t1, m1, b1, k1, k2, eq_true ha, tr]
    ·by_cases hb : b.i = 0
     ·simp only [decide_eq_false ha, decide_eq_true hb, Bool.not_false, Bool.not_true, Bool.true_and] at tr ⊢
      simp only [evAll, ↓reduceIte, Nat.reduceEqDiff, Nat.reduceAdd, Nat.reduceLeDiff, Nat.reduceLT, reduceCtorEq, Int.reduceEq, Int.reduceLE, Int.reduceToNat, c300, t1, m1, b1, k1, k2, ha, eq_true hb, tr]
     ·simp only [decide_eq_false ha, decide_eq_false hb, Bool.not_false, Bool.true_and] at tr ⊢
      simp only [evAll, ↓reduceIte, Nat.reduceEqDiff, Nat.reduceAdd, Nat.reduceLeDiff, Nat.reduceLT, reduceCtorEq, Int.reduceEq, Int.reduceLE, Int.reduceToNat, c300, t1, m1, b1, k1, k2, ha, hb, tr]
   ·have h109 : ¬ ((10 : Int) = 9) := by omega
    simp only [if_neg h109] at tr ⊢
    by_cases ha : a.i = 0
    ·by_cases hb : b.i = 0
     ·simp only [decide_eq_true ha, decide_eq_true hb, Bool.not_true, Bool.false_or] at tr ⊢
      simp only [evAll, ↓reduceIte, Nat.reduceEqDiff, Nat.reduceAdd, Nat.reduceLeDiff, Nat.reduceLT, reduceCtorEq, Int.reduceEq, Int.reduceLE, Int.reduceToNat, c300, t1, m1, b1, k1, k2, eq_true ha, eq_true hb, tr]
     ·simp only [decide_eq_true ha, decide_eq_false hb, Bool.not_false, Bool.not_true, Bool.false_or] at tr ⊢
      simp only [evAll, ↓reduceIte, Nat.reduceEqDiff, Nat.reduceAdd, Nat.reduceLeDiff, Nat.reduceLT, reduceCtorEq, Int.reduceEq, Int.reduceLE, Int.reduceToNat, c300, t1, m1, b1, k1, k2, eq_true ha, hb, tr]
    ·simp only [decide_eq_false ha, Bool.not_false, Bool.true_or] at tr ⊢
     simp only [evAll, ↓reduceIte, Nat.reduceEqDiff, Nat.reduceAdd, Nat.reduceLeDiff, Nat.reduceLT, reduceCtorEq, Int.reduceEq, Int.reduceLE, Int.reduceToNat, c300, t1, m1, b1, k1, k2, ha, tr]
  ·rw [decide_eq_false h2] at k2
   rw [if_neg (fun h => h2 h.2)]
   rcases hop with rfl | rfl
   ·simp only [evAll, ↓reduceIte, Nat.reduceEqDiff, Nat.reduceAdd, Nat.reduceLeDiff, Nat.reduceLT, reduceCtorEq, Int.reduceEq, Int.reduceLE, Int.reduceToNat, c300, t1, m1, b1, k1, k2, b4]
   ·simp only [evAll, ↓reduceIte, Nat.reduceEqDiff, Nat.reduceAdd, Nat.reduceLeDiff, Nat.reduceLT, reduceCtorEq, Int.reduceEq, Int.reduceLE, Int.reduceToNat, c300, t1, m1, b1, k1, k2, b4]
 ·rw [decide_eq_false h] at k1
  rw [if_neg (fun h' => h h'.1)]
  rcases hop with rfl | rfl
  ·simp only [evAll, ↓reduceIte, Nat.reduceEqDiff, Nat.reduceAdd, Nat.reduceLeDiff, Nat.reduceLT, reduceCtorEq, Int.reduceEq, Int.reduceLE, Int.reduceToNat, c300, t1, m1, b1, k1, b4]
  ·simp only [evAll, ↓reduceIte, Nat.reduceEqDiff, Nat.reduceAdd, Nat.reduceLeDiff, Nat.reduceLT, reduceCtorEq, Int.reduceEq, Int.reduceLE, Int.reduceToNat, c300, t1, m1, b1, k1, b4]
def setG (op : Int) (s v : GVal) : GVal := if s.kind = 5 then (if op = 20 then boolG (decide ((insV s.l v).length = s.l.length)) else .mk 5 0 [] (insV s.l v)) else badG 4
def InsOk (E : Nat → Option Fn) : Prop := ∀ (l : List GVal) (v : GVal), l.length ≤ 1000 → (∀ x ∈ l, Small x) → Small v → chainB ltV l = true →
  ∃ r h, lcall E 116 [.d (.l 4 (gvalRows l)), v.arg] [] = some (r, h) ∧ settle 0 r h = some (.d (.l 4 (gvalRows (insV l v))), [])
def FindOk (E : Nat → Option Fn) : Prop := ∀ (l : List GVal) (k : List UInt8), l.length ≤ 1000 → chainB ltK l = true → (∀ x ∈ l, 0 < x.l.length) →
  lcall E 119 [.d (.l 4 (gvalRows l)), .d (.s k)] [] = some (.tup [.d (.i .i64 (posK k l : Nat)), .d (.b (hasK k l))], [])
theorem set_ok (A : XE E) (hins : InsOk E) (op : Int) {s v : GVal} (hs : szN s ≤ 500) (hv : szN v ≤ 500) (hc : s.kind = 5 → chainB ltV s.l = true) : lcall E 304 [.d (.i .i64 op), s.arg, v.arg] [] = some ((setG op s v).arg, []) := by
 have b4 := bad_ok A 4
 refine call_q A.e304 ?_
 unfold setG
 by_cases h5 : s.kind = 5
 ·rw [if_pos h5]
  have ls := len_le s
  obtain ⟨r, h, i1, i2⟩ := hins s.l v (by omega) (fun x hx => (small_sz s (by omega)).sub x hx) (small_sz v (by omega)) (hc h5)
  rw [settle_ids] at i2
  by_cases h20 : op = 20
  ·rw [if_pos h20]
   have tr := truth_ok A (decide (((insV s.l v).length : Int) = s.l.length))
   have e1 : decide (((insV s.l v).length : Int) = s.l.length) = decide ((insV s.l v).length = s.l.length) := by
    by_cases e : (insV s.l v).length = s.l.length
    ·rw [decide_eq_true e, decide_eq_true (by omega)]
    ·rw [decide_eq_false e, decide_eq_false (by omega)]
   rw [← e1]
   simp only [evAll, ↓reduceIte, Nat.reduceEqDiff, Nat.reduceAdd, Nat.reduceLeDiff, reduceCtorEq, c304, eq_true h5, i1, i2, eq_true h20, gvalRows_length, tr]
  ·rw [if_neg h20]
   simp only [evAll, ↓reduceIte, Nat.reduceEqDiff, Nat.reduceAdd, Nat.reduceLeDiff, reduceCtorEq, c304, eq_true h5, i1, i2, h20]
   rfl
 ·rw [if_neg h5]
  simp only [evAll, ↓reduceIte, Nat.reduceEqDiff, Nat.reduceAdd, Nat.reduceLeDiff, reduceCtorEq, c304, h5, b4]
end Ab.Vx
