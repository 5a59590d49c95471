/-
  A splice: where lines begin behind it.
-/
import Derived.Test.YteijgcejelebiaaL2
namespace Ab
open Go
set_option linter.unusedVariables false
set_option linter.unusedSimpArgs false
set_option maxRecDepth 100000

/-- what is put in between. -/
def midF (cm : Bool) (A : Int) (P : List UInt8) (i : Nat) : List Int := if cm then [] else (endsF P i).map (A + ·)

abbrev lp3 : Option Obj := some (.lp 0 10253 [.ptr 1 0, .ptr 2 0, .ptr 3 0])
abbrev bxC (A N : Int) (P : List UInt8) : Option Obj := some (.box [.d (.i .i64 A), .d (.i .i64 N), .d (.s P)])

theorem edit_roundF (A N : Int) (P : List UInt8) (l : List Int) (n : Int) (hr : l.length ≤ 2000) (hA : 0 ≤ A) (hA2 : A ≤ 100000) (hn : 0 ≤ n) (hn2 : n ≤ 100000) : lcall tF 10253 [.fn 10253 [.map 0] [], .d (.i .i64 n)] [lp3, bxC A N P, some (.box [.d (.b false)]), some (.box [.own 4 0 1 (rowsI l)]), some (.tok 0 1)] =
    some (.d (.b true), [lp3, bxC A N P, some (.box [.d (.b false)]), some (.box [.own 4 1 1 (rowsI (l ++ [A + n]))]), some (.tok 1 1)]) := by
  have r8 : roomy (l.length + 1) 8 = true := roomy8 (by omega)
  have w : IntKind.i64.wrap (A + n) = A + n := i64_in (by omega) (by omega)
  refine call_round e10253 (id := 0) rfl rfl rfl ?_
  simp only [List.getD_cons_zero, List.getD_cons_succ, Nat.reduceBEq, Bool.or_self, Bool.or_false, Bool.false_or, Bool.or_true, Bool.true_or, Bool.and_true, Bool.true_and, Bool.and_self, Bool.and_false, Bool.false_and, Bool.not_false, Bool.not_true, Bool.false_eq_true, evQ, evK, evG, evW, evX, evM, evN, evC, evR, evH, far, ↓reduceIte, Nat.reduceEqDiff, Nat.reduceAdd, Nat.reduceLeDiff, Nat.reduceSub, Nat.reduceLT, reduceCtorEq, not_true_eq_false, not_false_eq_true, Int.reduceEq, Int.reduceLT, Int.reduceLE, Int.reduceNeg, Int.toNat_natCast, true_and, a10253, b10253, rowsI_length, r8, w, rowsI_snoc]

theorem edit_roundT (A N : Int) (P : List UInt8) (l : List Int) (n : Int) : lcall tF 10253 [.fn 10253 [.map 0] [], .d (.i .i64 n)] [lp3, bxC A N P, some (.box [.d (.b true)]), some (.box [.own 4 0 1 (rowsI l)]), some (.tok 0 1)] =
    some (.d (.b true), [lp3, bxC A N P, some (.box [.d (.b true)]), some (.box [.own 4 0 1 (rowsI l)]), some (.tok 0 1)]) := by
  refine call_round e10253 (id := 0) rfl rfl rfl ?_
  simp only [List.getD_cons_zero, List.getD_cons_succ, Nat.reduceBEq, Bool.or_self, Bool.or_false, Bool.false_or, Bool.or_true, Bool.true_or, Bool.and_true, Bool.true_and, Bool.and_self, Bool.and_false, Bool.false_and, Bool.not_false, Bool.not_true, Bool.false_eq_true, evQ, evK, evG, evW, evX, evM, evN, evC, evR, evH, far, ↓reduceIte, Nat.reduceEqDiff, Nat.reduceAdd, Nat.reduceLeDiff, Nat.reduceSub, Nat.reduceLT, reduceCtorEq, not_true_eq_false, not_false_eq_true, Int.reduceEq, Int.reduceLT, Int.reduceLE, Int.reduceNeg, Int.toNat_natCast, true_and, a10253, b10253]

set_option maxHeartbeats 1000000 in
theorem ends_loopF {s : List UInt8} (hs : s.length ≤ 500) {A N : Int} (hA : 0 ≤ A) (hA2 : A ≤ 100000) {Q : Ex → St → Prop} : ∀ (m i : Nat) (l : List Int), i + m = s.length → l.length ≤ i + 1000 →
    (∀ tm, Q (.exit 0) ⟨tm, [lp3, bxC A N s, some (.box [.d (.b false)]), some (.box [.own 4 0 1 (rowsI (l ++ midF false A (s.drop i) i))]), some (.tok 0 1)]⟩) →
    LX tF endsLoop ⟨[0, 1, 5, 6], [], [], [], [], true⟩ 5 ⟨[(0, .fn 10253 [.map 0] []), (1, .d (.q [.s s] 0)), (5, .d (.i .i64 s.length)), (6, .d (.i .i64 i))], [lp3, bxC A N s, some (.box [.d (.b false)]), some (.box [.own 4 0 1 (rowsI l)]), some (.tok 0 1)]⟩ Q := by
  intro m
  induction m with
  | zero =>
    intro i l hi hl hQ
    have hn : ¬ ((i : Int) < s.length) := by omega
    rw [List.drop_eq_nil_of_le (by omega)] at hQ
    simp only [midF, endsF, List.map_nil, ite_self, List.append_nil] at hQ
    refine lx_step ?_
    simp only [List.getD_cons_zero, List.getD_cons_succ, Nat.reduceBEq, Bool.or_self, Bool.or_false, Bool.false_or, Bool.or_true, Bool.true_or, Bool.and_true, Bool.true_and, Bool.and_self, Bool.and_false, Bool.false_and, Bool.not_false, Bool.not_true, Bool.false_eq_true, evQ, evK, evG, evW, evX, evM, evN, evC, evR, evH, far, ↓reduceIte, Nat.reduceEqDiff, Nat.reduceAdd, Nat.reduceLeDiff, Nat.reduceSub, Nat.reduceLT, reduceCtorEq, not_true_eq_false, not_false_eq_true, Int.reduceEq, Int.reduceLT, Int.reduceLE, Int.reduceNeg, Int.toNat_natCast, true_and, endsLoop, c254, hn, loopQ]
    exact hQ _
  | succ m ih =>
    intro i l hi hl hQ
    have hy : (i : Int) < s.length := by omega
    have la : i < s.length := by omega
    have h0 : (0 : Int) ≤ i := by omega
    have ga : s[i]? = some s[i] := List.getElem?_eq_getElem la
    have w : IntKind.i64.wrap ((i : Int) + 1) = ((i + 1 : Nat) : Int) := by rw [i64_in (by omega) (by omega)]; omega
    rw [List.drop_eq_getElem_cons la] at hQ
    simp only [midF, endsF, Bool.false_eq_true, if_false, if_true] at hQ
    generalize s[i] = c at *
    refine lx_step ?_
    by_cases hc : (c.toNat : Int) = 10
    · try simp only [if_pos hc, List.map_cons] at hQ
      have c1 := edit_roundF A N s l ((i + 1 : Nat) : Int) (by omega) hA hA2 (by omega) (by omega)
      simp only [List.getD_cons_zero, List.getD_cons_succ, Nat.reduceBEq, Bool.or_self, Bool.or_false, Bool.false_or, Bool.or_true, Bool.true_or, Bool.and_true, Bool.true_and, Bool.and_self, Bool.and_false, Bool.false_and, Bool.not_false, Bool.not_true, Bool.false_eq_true, evQ, evK, evG, evW, evX, evM, evN, evC, evR, evH, far, ↓reduceIte, Nat.reduceEqDiff, Nat.reduceAdd, Nat.reduceLeDiff, Nat.reduceSub, Nat.reduceLT, reduceCtorEq, not_true_eq_false, not_false_eq_true, Int.reduceEq, Int.reduceLT, Int.reduceLE, Int.reduceNeg, Int.toNat_natCast, true_and, endsLoop, c254, eq_true hy, loopQ, h0, ga, w, c1, eq_true hc]
      refine ⟨_, ?_, ih (i + 1) (l ++ [A + ((i + 1 : Nat) : Int)]) (by omega) (by first | (simp; omega) | omega) (by simpa [midF] using hQ)⟩
      simp only [List.getD_cons_zero, List.getD_cons_succ, Nat.reduceBEq, Bool.or_self, Bool.or_false, Bool.false_or, Bool.or_true, Bool.true_or, Bool.false_eq_true, evG, evC, evH, evX, evN, ↓reduceIte, Nat.reduceEqDiff, Nat.reduceAdd, Nat.reduceLeDiff, Nat.reduceLT, Nat.reduceSub, reduceCtorEq]
    · try simp only [if_neg hc] at hQ
      simp only [List.getD_cons_zero, List.getD_cons_succ, Nat.reduceBEq, Bool.or_self, Bool.or_false, Bool.false_or, Bool.or_true, Bool.true_or, Bool.and_true, Bool.true_and, Bool.and_self, Bool.and_false, Bool.false_and, Bool.not_false, Bool.not_true, Bool.false_eq_true, evQ, evK, evG, evW, evX, evM, evN, evC, evR, evH, far, ↓reduceIte, Nat.reduceEqDiff, Nat.reduceAdd, Nat.reduceLeDiff, Nat.reduceSub, Nat.reduceLT, reduceCtorEq, not_true_eq_false, not_false_eq_true, Int.reduceEq, Int.reduceLT, Int.reduceLE, Int.reduceNeg, Int.toNat_natCast, true_and, endsLoop, c254, eq_true hy, loopQ, h0, ga, w, hc]
      refine ⟨_, ?_, ih (i + 1) l (by omega) (by omega) (by simpa [midF] using hQ)⟩
      simp only [List.getD_cons_zero, List.getD_cons_succ, Nat.reduceBEq, Bool.or_self, Bool.or_false, Bool.false_or, Bool.or_true, Bool.true_or, Bool.false_eq_true, evG, evC, evH, evX, evN, ↓reduceIte, Nat.reduceEqDiff, Nat.reduceAdd, Nat.reduceLeDiff, Nat.reduceLT, Nat.reduceSub, reduceCtorEq]

theorem ends1_F {s : List UInt8} (hs : s.length ≤ 500) {A N : Int} (hA : 0 ≤ A) (hA2 : A ≤ 100000) (l : List Int) (hl : l.length ≤ 1000) : lcall tF 254 [.fn 10253 [.map 0] [], .d (.q [.s s] 0)] [lp3, bxC A N s, some (.box [.d (.b false)]), some (.box [.own 4 0 1 (rowsI l)]), some (.tok 0 1)] =
    some (.tup [], [lp3, bxC A N s, some (.box [.d (.b false)]), some (.box [.own 4 0 1 (rowsI (l ++ midF false A s 0))]), some (.tok 0 1)]) := by
  refine call_q e254 ?_
  simp only [List.getD_cons_zero, List.getD_cons_succ, Nat.reduceBEq, Bool.or_self, Bool.or_false, Bool.false_or, Bool.or_true, Bool.true_or, Bool.and_true, Bool.true_and, Bool.and_self, Bool.and_false, Bool.false_and, Bool.not_false, Bool.not_true, Bool.false_eq_true, evQ, evK, evG, evW, evX, evM, evN, evC, evR, evH, far, ↓reduceIte, Nat.reduceEqDiff, Nat.reduceAdd, Nat.reduceLeDiff, Nat.reduceSub, Nat.reduceLT, reduceCtorEq, not_true_eq_false, not_false_eq_true, Int.reduceEq, Int.reduceLT, Int.reduceLE, Int.reduceNeg, Int.toNat_natCast, true_and, c254]
  refine ends_loopF hs hA hA2 s.length 0 l (by omega) (by omega) (fun tm => ?_)
  simp only [List.getD_cons_zero, List.getD_cons_succ, Nat.reduceBEq, Bool.or_self, Bool.or_false, Bool.false_or, Bool.or_true, Bool.true_or, Bool.and_true, Bool.true_and, Bool.and_self, Bool.and_false, Bool.false_and, Bool.not_false, Bool.not_true, Bool.false_eq_true, evQ, evK, evG, evW, evX, evM, evN, evC, evR, evH, far, ↓reduceIte, Nat.reduceEqDiff, Nat.reduceAdd, Nat.reduceLeDiff, Nat.reduceSub, Nat.reduceLT, reduceCtorEq, not_true_eq_false, not_false_eq_true, Int.reduceEq, Int.reduceLT, Int.reduceLE, Int.reduceNeg, Int.toNat_natCast, true_and, List.drop_zero]

theorem edit1_F {s : List UInt8} (hs : s.length ≤ 500) {A N : Int} (hA : 0 ≤ A) (hA2 : A ≤ 100000) (l : List Int) (hl : l.length ≤ 1000) : lcall tF 253 [.ptr 0 0, .ptr 1 0, .ptr 2 0] [bxC A N s, some (.box [.d (.b false)]), some (.box [.own 3 0 1 (rowsI l)]), some (.tok 0 1)] =
    some (.tup [], [bxC A N s, some (.box [.d (.b true)]), some (.box [.own 3 1 1 (rowsI (l ++ midF false A s 0))]), some (.tok 1 1)]) := by
  have c1 := ends_call s
  have c2 := ends1_F hs (N := N) hA hA2 l hl
  refine call_q e253 ?_
  simp only [List.getD_cons_zero, List.getD_cons_succ, Nat.reduceBEq, Bool.or_self, Bool.or_false, Bool.false_or, Bool.or_true, Bool.true_or, Bool.and_true, Bool.true_and, Bool.and_self, Bool.and_false, Bool.false_and, Bool.not_false, Bool.not_true, Bool.false_eq_true, evQ, evK, evG, evW, evX, evM, evN, evC, evR, evH, far, ↓reduceIte, Nat.reduceEqDiff, Nat.reduceAdd, Nat.reduceLeDiff, Nat.reduceSub, Nat.reduceLT, reduceCtorEq, not_true_eq_false, not_false_eq_true, Int.reduceEq, Int.reduceLT, Int.reduceLE, Int.reduceNeg, Int.toNat_natCast, true_and, c253, c1, c2]

set_option maxHeartbeats 1000000 in
theorem ends_loopT {s : List UInt8} (hs : s.length ≤ 500) {A N : Int} (hA : 0 ≤ A) (hA2 : A ≤ 100000) {Q : Ex → St → Prop} : ∀ (m i : Nat) (l : List Int), i + m = s.length → l.length ≤ i + 1000 →
    (∀ tm, Q (.exit 0) ⟨tm, [lp3, bxC A N s, some (.box [.d (.b true)]), some (.box [.own 4 0 1 (rowsI (l ++ midF true A (s.drop i) i))]), some (.tok 0 1)]⟩) →
    LX tF endsLoop ⟨[0, 1, 5, 6], [], [], [], [], true⟩ 5 ⟨[(0, .fn 10253 [.map 0] []), (1, .d (.q [.s s] 0)), (5, .d (.i .i64 s.length)), (6, .d (.i .i64 i))], [lp3, bxC A N s, some (.box [.d (.b true)]), some (.box [.own 4 0 1 (rowsI l)]), some (.tok 0 1)]⟩ Q := by
  intro m
  induction m with
  | zero =>
    intro i l hi hl hQ
    have hn : ¬ ((i : Int) < s.length) := by omega
    rw [List.drop_eq_nil_of_le (by omega)] at hQ
    simp only [midF, endsF, List.map_nil, ite_self, List.append_nil] at hQ
    refine lx_step ?_
    simp only [List.getD_cons_zero, List.getD_cons_succ, Nat.reduceBEq, Bool.or_self, Bool.or_false, Bool.false_or, Bool.or_true, Bool.true_or, Bool.and_true, Bool.true_and, Bool.and_self, Bool.and_false, Bool.false_and, Bool.not_false, Bool.not_true, Bool.false_eq_true, evQ, evK, evG, evW, evX, evM, evN, evC, evR, evH, far, ↓reduceIte, Nat.reduceEqDiff, Nat.reduceAdd, Nat.reduceLeDiff, Nat.reduceSub, Nat.reduceLT, reduceCtorEq, not_true_eq_false, not_false_eq_true, Int.reduceEq, Int.reduceLT, Int.reduceLE, Int.reduceNeg, Int.toNat_natCast, true_and, endsLoop, c254, hn, loopQ]
    exact hQ _
  | succ m ih =>
    intro i l hi hl hQ
    have hy : (i : Int) < s.length := by omega
    have la : i < s.length := by omega
    have h0 : (0 : Int) ≤ i := by omega
    have ga : s[i]? = some s[i] := List.getElem?_eq_getElem la
    have w : IntKind.i64.wrap ((i : Int) + 1) = ((i + 1 : Nat) : Int) := by rw [i64_in (by omega) (by omega)]; omega
    rw [List.drop_eq_getElem_cons la] at hQ
    simp only [midF, endsF, Bool.false_eq_true, if_false, if_true] at hQ
    generalize s[i] = c at *
    refine lx_step ?_
    by_cases hc : (c.toNat : Int) = 10
    · try simp only [if_pos hc, List.map_cons] at hQ
      have c1 := edit_roundT A N s l ((i + 1 : Nat) : Int)
      simp only [List.getD_cons_zero, List.getD_cons_succ, Nat.reduceBEq, Bool.or_self, Bool.or_false, Bool.false_or, Bool.or_true, Bool.true_or, Bool.and_true, Bool.true_and, Bool.and_self, Bool.and_false, Bool.false_and, Bool.not_false, Bool.not_true, Bool.false_eq_true, evQ, evK, evG, evW, evX, evM, evN, evC, evR, evH, far, ↓reduceIte, Nat.reduceEqDiff, Nat.reduceAdd, Nat.reduceLeDiff, Nat.reduceSub, Nat.reduceLT, reduceCtorEq, not_true_eq_false, not_false_eq_true, Int.reduceEq, Int.reduceLT, Int.reduceLE, Int.reduceNeg, Int.toNat_natCast, true_and, endsLoop, c254, eq_true hy, loopQ, h0, ga, w, c1, eq_true hc]
      refine ⟨_, ?_, ih (i + 1) l (by omega) (by first | (simp; omega) | omega) (by simpa [midF] using hQ)⟩
      simp only [List.getD_cons_zero, List.getD_cons_succ, Nat.reduceBEq, Bool.or_self, Bool.or_false, Bool.false_or, Bool.or_true, Bool.true_or, Bool.false_eq_true, evG, evC, evH, evX, evN, ↓reduceIte, Nat.reduceEqDiff, Nat.reduceAdd, Nat.reduceLeDiff, Nat.reduceLT, Nat.reduceSub, reduceCtorEq]
    · try simp only [if_neg hc] at hQ
      simp only [List.getD_cons_zero, List.getD_cons_succ, Nat.reduceBEq, Bool.or_self, Bool.or_false, Bool.false_or, Bool.or_true, Bool.true_or, Bool.and_true, Bool.true_and, Bool.and_self, Bool.and_false, Bool.false_and, Bool.not_false, Bool.not_true, Bool.false_eq_true, evQ, evK, evG, evW, evX, evM, evN, evC, evR, evH, far, ↓reduceIte, Nat.reduceEqDiff, Nat.reduceAdd, Nat.reduceLeDiff, Nat.reduceSub, Nat.reduceLT, reduceCtorEq, not_true_eq_false, not_false_eq_true, Int.reduceEq, Int.reduceLT, Int.reduceLE, Int.reduceNeg, Int.toNat_natCast, true_and, endsLoop, c254, eq_true hy, loopQ, h0, ga, w, hc]
      refine ⟨_, ?_, ih (i + 1) l (by omega) (by omega) (by simpa [midF] using hQ)⟩
      simp only [List.getD_cons_zero, List.getD_cons_succ, Nat.reduceBEq, Bool.or_self, Bool.or_false, Bool.false_or, Bool.or_true, Bool.true_or, Bool.false_eq_true, evG, evC, evH, evX, evN, ↓reduceIte, Nat.reduceEqDiff, Nat.reduceAdd, Nat.reduceLeDiff, Nat.reduceLT, Nat.reduceSub, reduceCtorEq]

theorem ends1_T {s : List UInt8} (hs : s.length ≤ 500) {A N : Int} (hA : 0 ≤ A) (hA2 : A ≤ 100000) (l : List Int) (hl : l.length ≤ 1000) : lcall tF 254 [.fn 10253 [.map 0] [], .d (.q [.s s] 0)] [lp3, bxC A N s, some (.box [.d (.b true)]), some (.box [.own 4 0 1 (rowsI l)]), some (.tok 0 1)] =
    some (.tup [], [lp3, bxC A N s, some (.box [.d (.b true)]), some (.box [.own 4 0 1 (rowsI (l ++ midF true A s 0))]), some (.tok 0 1)]) := by
  refine call_q e254 ?_
  simp only [List.getD_cons_zero, List.getD_cons_succ, Nat.reduceBEq, Bool.or_self, Bool.or_false, Bool.false_or, Bool.or_true, Bool.true_or, Bool.and_true, Bool.true_and, Bool.and_self, Bool.and_false, Bool.false_and, Bool.not_false, Bool.not_true, Bool.false_eq_true, evQ, evK, evG, evW, evX, evM, evN, evC, evR, evH, far, ↓reduceIte, Nat.reduceEqDiff, Nat.reduceAdd, Nat.reduceLeDiff, Nat.reduceSub, Nat.reduceLT, reduceCtorEq, not_true_eq_false, not_false_eq_true, Int.reduceEq, Int.reduceLT, Int.reduceLE, Int.reduceNeg, Int.toNat_natCast, true_and, c254]
  refine ends_loopT hs hA hA2 s.length 0 l (by omega) (by omega) (fun tm => ?_)
  simp only [List.getD_cons_zero, List.getD_cons_succ, Nat.reduceBEq, Bool.or_self, Bool.or_false, Bool.false_or, Bool.or_true, Bool.true_or, Bool.and_true, Bool.true_and, Bool.and_self, Bool.and_false, Bool.false_and, Bool.not_false, Bool.not_true, Bool.false_eq_true, evQ, evK, evG, evW, evX, evM, evN, evC, evR, evH, far, ↓reduceIte, Nat.reduceEqDiff, Nat.reduceAdd, Nat.reduceLeDiff, Nat.reduceSub, Nat.reduceLT, reduceCtorEq, not_true_eq_false, not_false_eq_true, Int.reduceEq, Int.reduceLT, Int.reduceLE, Int.reduceNeg, Int.toNat_natCast, true_and, List.drop_zero]

theorem edit1_T {s : List UInt8} (hs : s.length ≤ 500) {A N : Int} (hA : 0 ≤ A) (hA2 : A ≤ 100000) (l : List Int) (hl : l.length ≤ 1000) : lcall tF 253 [.ptr 0 0, .ptr 1 0, .ptr 2 0] [bxC A N s, some (.box [.d (.b true)]), some (.box [.own 3 0 1 (rowsI l)]), some (.tok 0 1)] =
    some (.tup [], [bxC A N s, some (.box [.d (.b true)]), some (.box [.own 3 1 1 (rowsI (l ++ midF true A s 0))]), some (.tok 1 1)]) := by
  have c1 := ends_call s
  have c2 := ends1_T hs (N := N) hA hA2 l hl
  refine call_q e253 ?_
  simp only [List.getD_cons_zero, List.getD_cons_succ, Nat.reduceBEq, Bool.or_self, Bool.or_false, Bool.false_or, Bool.or_true, Bool.true_or, Bool.and_true, Bool.true_and, Bool.and_self, Bool.and_false, Bool.false_and, Bool.not_false, Bool.not_true, Bool.false_eq_true, evQ, evK, evG, evW, evX, evM, evN, evC, evR, evH, far, ↓reduceIte, Nat.reduceEqDiff, Nat.reduceAdd, Nat.reduceLeDiff, Nat.reduceSub, Nat.reduceLT, reduceCtorEq, not_true_eq_false, not_false_eq_true, Int.reduceEq, Int.reduceLT, Int.reduceLE, Int.reduceNeg, Int.toNat_natCast, true_and, c253, c1, c2]
end Ab
