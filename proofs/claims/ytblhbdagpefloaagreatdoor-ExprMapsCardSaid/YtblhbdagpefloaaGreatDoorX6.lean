/-
 What an operation comes to of values.
-/
import Derived.Test.YtblhbdagpefloaaGreatDoorX5
namespace Ab.Vx
open Go
set_option linter.unusedVariables false
set_option linter.unusedSimpArgs false
set_option maxRecDepth 100000
variable {E : Nat → Option Fn}
def Ord (v : GVal) : Prop := (v.kind = 5 → chainB ltV v.l = true) ∧ (v.kind = 6 → chainB ltK v.l = true ∧ ∀ x ∈ v.l, x.l.length = 2)
def of2G (op : Int) (a b : GVal) : GVal :=
 if op = 4 ∨ op = 5 ∨ op = 6 then (if a.kind = 1 ∧ b.kind = 1 then sumG op a.i b.i else badG 4)
 else if op = 7 then boolG (decide (cmpV a b = 0)) else if op = 8 then boolG (decide (cmpV a b < 0))
 else if op = 9 ∨ op = 10 then logicG op a b
 else if op = 13 then catG a b
 else if op = 17 then (if a.kind = 6 ∧ b.kind = 3 then getG a b else badG 4)
 else if op = 18 then (if a.kind = 6 ∧ b.kind = 3 then boolG (hasK b.s a.l) else badG 4)
 else setG op a b
def ofG (op : Int) (l : List GVal) : GVal :=
 if op = 21 then .mk 5 0 [] [] else if op = 22 then .mk 6 0 [] [] else if op = 14 then .mk 4 0 [] l else
 match l with
 | [a] => if op = 11 then logicG 11 a a else lengthG a
 | [a, b] => of2G op a b
 | [a, b, c] => if a.kind = 6 ∧ b.kind = 3 then .mk 6 0 [] (putL a.l b c) else badG 4
 | _ => badG 4
theorem kinds2 (A : XE E) (a b : GVal) (r : List GVal) (hr : r.length ≤ 100) (p q : Int) : lcall E 297 [.d (.l 4 (gvalRows (a :: b :: r))), .d (.l 1 [[.i .i64 p], [.i .i64 q]])] [] = some (.d (.b (decide (a.kind = p) && decide (b.kind = q))), []) := by
 have k := kinds_ok A (l := a :: b :: r) (ws := [p, q]) (by simp; omega) (by simp)
 simp only [kindsB, Bool.and_true, kr2] at k
 exact k
theorem of_sum (A : XE E) {op : Int} (ho : op = 4 ∨ op = 5 ∨ op = 6) (a b : GVal) : lcall E 287 [.d (.i .i64 op), .d (.l 4 [a.row, b.row])] [] = some ((of2G op a b).arg, []) := by
 have k := kinds2 A a b [] (by simp) 1 1
 have b4 := bad_ok A 4
 have s : lcall E 298 [.d (.i .i64 op), .d (.i .i64 a.i), .d (.i .i64 b.i)] [] = some ((sumG op a.i b.i).arg, []) := by
  rcases ho with rfl | rfl | rfl
  ·exact sum4_ok A _ _
  ·exact sum5_ok A _ _
  ·exact sum6_ok A _ _
 unfold of2G
 rw [if_pos ho]
 simp only [gvalRows, row_eq] at k
 rw [row_eq, row_eq]
 refine call_q A.e287 ?_
 by_cases h : a.kind = 1 ∧ b.kind = 1
 ·rw [if_pos h]
  rw [decide_eq_true h.1, decide_eq_true h.2] at k
  rcases ho with rfl | rfl | rfl
  ·simp only [evAll, ↓reduceIte, Nat.reduceEqDiff, Nat.reduceAdd, Nat.reduceLeDiff, Nat.reduceLT, reduceCtorEq, Int.reduceEq, Int.reduceLE, Int.reduceToNat, c287, k, s]
   rfl
  ·simp only [evAll, ↓reduceIte, Nat.reduceEqDiff, Nat.reduceAdd, Nat.reduceLeDiff, Nat.reduceLT, reduceCtorEq, Int.reduceEq, Int.reduceLE, Int.reduceToNat, c287, k, s]
   rfl
  ·simp only [evAll, ↓reduceIte, Nat.reduceEqDiff, Nat.reduceAdd, Nat.reduceLeDiff, Nat.reduceLT, reduceCtorEq, Int.reduceEq, Int.reduceLE, Int.reduceToNat, c287, k, s]
   rfl
 ·rw [if_neg h]
  have hk : (decide (a.kind = 1) && decide (b.kind = 1)) = false := by
   by_cases e1 : a.kind = 1 <;> by_cases e2 : b.kind = 1 <;> simp_all
  rw [hk] at k
  rcases ho with rfl | rfl | rfl
  ·simp only [evAll, ↓reduceIte, Nat.reduceEqDiff, Nat.reduceAdd, Nat.reduceLeDiff, Nat.reduceLT, reduceCtorEq, Int.reduceEq, Int.reduceLE, Int.reduceToNat, c287, k, b4]
  ·simp only [evAll, ↓reduceIte, Nat.reduceEqDiff, Nat.reduceAdd, Nat.reduceLeDiff, Nat.reduceLT, reduceCtorEq, Int.reduceEq, Int.reduceLE, Int.reduceToNat, c287, k, b4]
  ·simp only [evAll, ↓reduceIte, Nat.reduceEqDiff, Nat.reduceAdd, Nat.reduceLeDiff, Nat.reduceLT, reduceCtorEq, Int.reduceEq, Int.reduceLE, Int.reduceToNat, c287, k, b4]
theorem of_cmp (A : XE E) {op : Int} (ho : op = 7 ∨ op = 8) {a b : GVal} (hc : lcall E 114 [a.arg, b.arg] [] = some (.d (.i .i64 (cmpV a b)), [])) : lcall E 287 [.d (.i .i64 op), .d (.l 4 [a.row, b.row])] [] = some ((of2G op a b).arg, []) := by
 have t0 := truth_ok A (decide (cmpV a b = 0))
 have t1 := truth_ok A (decide (cmpV a b < 0))
 unfold of2G
 rw [if_neg (by omega)]
 rw [row_eq, row_eq]
 refine call_q A.e287 ?_
 rcases ho with rfl | rfl
 ·rw [if_pos rfl]
  simp only [evAll, ↓reduceIte, Nat.reduceEqDiff, Nat.reduceAdd, Nat.reduceLeDiff, Nat.reduceLT, reduceCtorEq, Int.reduceEq, Int.reduceLE, Int.reduceToNat, c287, hc, t0]
  rfl
 ·rw [if_neg (by decide), if_pos rfl]
  simp only [evAll, ↓reduceIte, Nat.reduceEqDiff, Nat.reduceAdd, Nat.reduceLeDiff, Nat.reduceLT, reduceCtorEq, Int.reduceEq, Int.reduceLE, Int.reduceToNat, c287, hc, t1]
  rfl
theorem of_log (A : XE E) {op : Int} (ho : op = 9 ∨ op = 10) (a b : GVal) : lcall E 287 [.d (.i .i64 op), .d (.l 4 [a.row, b.row])] [] = some ((of2G op a b).arg, []) := by
 have s := and_ok A op ho a b
 unfold of2G
 rw [if_neg (by omega), if_neg (by omega), if_neg (by omega), if_pos ho]
 refine call_q A.e287 ?_
 rcases ho with rfl | rfl
 ·simp only [evAll, ↓reduceIte, Nat.reduceEqDiff, Nat.reduceAdd, Nat.reduceLeDiff, Nat.reduceLT, reduceCtorEq, Int.reduceEq, Int.reduceLE, Int.reduceToNat, c287, s]
 ·simp only [evAll, ↓reduceIte, Nat.reduceEqDiff, Nat.reduceAdd, Nat.reduceLeDiff, Nat.reduceLT, reduceCtorEq, Int.reduceEq, Int.reduceLE, Int.reduceToNat, c287, s]
theorem of_not (A : XE E) (a : GVal) : lcall E 287 [.d (.i .i64 11), .d (.l 4 [a.row])] [] = some ((logicG 11 a a).arg, []) := by
 have s := not_ok A a
 refine call_q A.e287 ?_
 simp only [evAll, ↓reduceIte, Nat.reduceEqDiff, Nat.reduceAdd, Nat.reduceLeDiff, Nat.reduceLT, reduceCtorEq, Int.reduceEq, Int.reduceLE, Int.reduceToNat, c287, s]
theorem of_len (A : XE E) (a : GVal) : lcall E 287 [.d (.i .i64 15), .d (.l 4 [a.row])] [] = some ((lengthG a).arg, []) := by
 have s := length_ok A a
 rw [row_eq]
 refine call_q A.e287 ?_
 simp only [evAll, ↓reduceIte, Nat.reduceEqDiff, Nat.reduceAdd, Nat.reduceLeDiff, Nat.reduceLT, reduceCtorEq, Int.reduceEq, Int.reduceLE, Int.reduceToNat, c287, s]
theorem of_cat (A : XE E) {a b : GVal} (ha : szN a ≤ 500) (hb : szN b ≤ 500) : lcall E 287 [.d (.i .i64 13), .d (.l 4 [a.row, b.row])] [] = some ((catG a b).arg, []) := by
 have s := cat_ok A ha hb
 rw [row_eq, row_eq]
 refine call_q A.e287 ?_
 simp only [evAll, ↓reduceIte, Nat.reduceEqDiff, Nat.reduceAdd, Nat.reduceLeDiff, Nat.reduceLT, reduceCtorEq, Int.reduceEq, Int.reduceLE, Int.reduceToNat, c287, s]
 rfl
theorem of_make (A : XE E) (l : List GVal) : lcall E 287 [.d (.i .i64 14), .d (.l 4 (gvalRows l))] [] = some ((GVal.mk 4 0 [] l).arg, []) := by
 refine call_q A.e287 ?_
 simp only [evAll, ↓reduceIte, Nat.reduceEqDiff, Nat.reduceAdd, Nat.reduceLeDiff, Nat.reduceLT, reduceCtorEq, Int.reduceEq, Int.reduceLE, Int.reduceToNat, c287]
 rfl
theorem of_none (A : XE E) (l : List GVal) : lcall E 287 [.d (.i .i64 21), .d (.l 4 (gvalRows l))] [] = some ((GVal.mk 5 0 [] []).arg, []) ∧ lcall E 287 [.d (.i .i64 22), .d (.l 4 (gvalRows l))] [] = some ((GVal.mk 6 0 [] []).arg, []) := by
 refine ⟨call_q A.e287 ?_, call_q A.e287 ?_⟩
 ·simp only [evAll, ↓reduceIte, Nat.reduceEqDiff, Nat.reduceAdd, Nat.reduceLeDiff, Nat.reduceLT, reduceCtorEq, Int.reduceEq, Int.reduceLE, Int.reduceToNat, c287]
  rfl
 ·simp only [evAll, ↓reduceIte, Nat.reduceEqDiff, Nat.reduceAdd, Nat.reduceLeDiff, Nat.reduceLT, reduceCtorEq, Int.reduceEq, Int.reduceLE, Int.reduceToNat, c287]
  rfl
theorem of_env (A : XE E) {op : Int} (ho : op = 16 ∨ op = 17 ∨ op = 18) {l : List GVal} {v : GVal} (s : lcall E 303 [.d (.i .i64 op), .d (.l 4 (gvalRows l))] [] = some (v.arg, [])) : lcall E 287 [.d (.i .i64 op), .d (.l 4 (gvalRows l))] [] = some (v.arg, []) := by
 refine call_q A.e287 ?_
 rcases ho with rfl | rfl | rfl
 ·simp only [evAll, ↓reduceIte, Nat.reduceEqDiff, Nat.reduceAdd, Nat.reduceLeDiff, Nat.reduceLT, reduceCtorEq, Int.reduceEq, Int.reduceLE, Int.reduceToNat, c287, s]
 ·simp only [evAll, ↓reduceIte, Nat.reduceEqDiff, Nat.reduceAdd, Nat.reduceLeDiff, Nat.reduceLT, reduceCtorEq, Int.reduceEq, Int.reduceLE, Int.reduceToNat, c287, s]
 ·simp only [evAll, ↓reduceIte, Nat.reduceEqDiff, Nat.reduceAdd, Nat.reduceLeDiff, Nat.reduceLT, reduceCtorEq, Int.reduceEq, Int.reduceLE, Int.reduceToNat, c287, s]
theorem of_set (A : XE E) (hins : InsOk E) {op : Int} (ho : op = 19 ∨ op = 20) {a b : GVal} (ha : szN a ≤ 500) (hb : szN b ≤ 500) (hc : Ord a) : lcall E 287 [.d (.i .i64 op), .d (.l 4 [a.row, b.row])] [] = some ((setG op a b).arg, []) := by
 have s := set_ok A hins op ha hb hc.1
 rw [row_eq, row_eq]
 refine call_q A.e287 ?_
 rcases ho with rfl | rfl
 ·simp only [evAll, ↓reduceIte, Nat.reduceEqDiff, Nat.reduceAdd, Nat.reduceLeDiff, Nat.reduceLT, reduceCtorEq, Int.reduceEq, Int.reduceLE, Int.reduceToNat, c287, s]
  rfl
 ·simp only [evAll, ↓reduceIte, Nat.reduceEqDiff, Nat.reduceAdd, Nat.reduceLeDiff, Nat.reduceLT, reduceCtorEq, Int.reduceEq, Int.reduceLE, Int.reduceToNat, c287, s]
  rfl
def Arity (op : Int) (l : List GVal) : Prop := (takesF op = (l.length : Int) ∨ op = 14) ∧ 4 ≤ op ∧ op ≠ 12 ∧ op ≤ 22 ∧ l.length ≤ 100
theorem of_ok (A : XE E) (hins : InsOk E) (hf : FindOk E) (hcmp : ∀ (a b : GVal), Small a → Small b → lcall E 114 [a.arg, b.arg] [] = some (.d (.i .i64 (cmpV a b)), [])) {op : Int} {l : List GVal} (hl : ∀ x ∈ l, szN x ≤ 60 ∧ Ord x) (har : Arity op l) :
  lcall E 287 [.d (.i .i64 op), .d (.l 4 (gvalRows l))] [] = some ((ofG op l).arg, []) := by
 obtain ⟨h1, h2, h3, h4, h5⟩ := har
 unfold ofG
 by_cases h21 : op = 21
 ·subst h21; exact (of_none A l).1
 by_cases h22 : op = 22
 ·subst h22; exact (of_none A l).2
 by_cases h14 : op = 14
 ·subst h14; exact of_make A l
 rw [if_neg h21, if_neg h22, if_neg h14]
 have h1 : takesF op = (l.length : Int) := by rcases h1 with h | h; exact h; exact absurd h h14
 by_cases h11 : op = 11
 ·subst h11
  have e : l.length = 1 := by have : takesF 11 = 1 := rfl; omega
  match l, e with
  | [a], _ => exact of_not A a
 by_cases h15 : op = 15
 ·subst h15
  have e : l.length = 1 := by have : takesF 15 = 1 := rfl; omega
  match l, e with
  | [a], _ => exact of_len A a
 by_cases h16 : op = 16
 ·subst h16
  have e : l.length = 3 := by have : takesF 16 = 3 := rfl; omega
  match l, e, hl with
  | [m, k, v], _, hl =>
   obtain ⟨hm1, hm2⟩ := hl m (by simp)
   simp only
   by_cases hk : m.kind = 6 ∧ k.kind = 3
   ·rw [if_pos hk]
    refine of_env A (.inl rfl) ?_
    exact put_ok A hf (by omega) hk.1 hk.2 (hm2.2 hk.1).1 (fun x hx => by have := (hm2.2 hk.1).2 x hx; omega)
   ·rw [if_neg hk]
    refine of_env A (.inl rfl) (envbad_ok A 16 (by simp) (by simp) ?_)
    simp only [kindsB, Bool.and_true]
    by_cases e1 : m.kind = 6 <;> by_cases e2 : k.kind = 3 <;> simp_all
 have e : takesF op = 2 := by
  have : 4 ≤ op ∧ op ≤ 22 := ⟨h2, h4⟩
  unfold takesF
  rw [if_neg (by omega), if_neg (by omega), if_neg (by omega), if_neg (by omega), if_neg h21, if_neg h22, if_neg h11, if_neg h15, if_neg h3, if_neg h16, if_neg h14, if_pos (by omega)]
 have e : l.length = 2 := by omega
 match l, e, hl with
 | [a, b], _, hl =>
  obtain ⟨ha1, ha2⟩ := hl a (by simp)
  obtain ⟨hb1, hb2⟩ := hl b (by simp)
  simp only
  by_cases o1 : op = 4 ∨ op = 5 ∨ op = 6
  ·exact of_sum A o1 a b
  by_cases o2 : op = 7 ∨ op = 8
  ·exact of_cmp A o2 (hcmp a b (small_sz a (by omega)) (small_sz b (by omega)))
  by_cases o3 : op = 9 ∨ op = 10
  ·exact of_log A o3 a b
  unfold of2G
  rw [if_neg o1, if_neg (fun h => o2 (.inl h)), if_neg (fun h => o2 (.inr h)), if_neg o3]
  by_cases o4 : op = 13
  ·subst o4; exact of_cat A (by omega) (by omega)
  rw [if_neg o4]
  have kb : ¬ (a.kind = 6 ∧ b.kind = 3) → kindsB [a, b] [6, 3] = false := fun hk => by
   simp only [kindsB, Bool.and_true]
   by_cases e1 : a.kind = 6 <;> by_cases e2 : b.kind = 3 <;> simp_all
  by_cases o5 : op = 17
  ·subst o5
   rw [if_pos rfl]
   by_cases hk : a.kind = 6 ∧ b.kind = 3
   ·rw [if_pos hk]
    exact of_env A (.inr (.inl rfl)) (get_ok A hf (by omega) hk.1 hk.2 (ha2.2 hk.1).1 (ha2.2 hk.1).2)
   ·rw [if_neg hk]
    exact of_env A (.inr (.inl rfl)) (envbad_ok A 17 (by simp) (by simp) (kb hk))
  rw [if_neg o5]
  by_cases o6 : op = 18
  ·subst o6
   rw [if_pos rfl]
   by_cases hk : a.kind = 6 ∧ b.kind = 3
   ·rw [if_pos hk]
    exact of_env A (.inr (.inr rfl)) (has_ok A hf (by omega) hk.1 hk.2 (ha2.2 hk.1).1 (fun x hx => by have := (ha2.2 hk.1).2 x hx; omega))
   ·rw [if_neg hk]
    exact of_env A (.inr (.inr rfl)) (envbad_ok A 18 (by simp) (by simp) (kb hk))
  rw [if_neg o6]
  exact of_set A hins (by omega) (by omega) (by omega) ha2
end Ab.Vx
