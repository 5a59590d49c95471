/-
  Where lines begin: what the functions of package lines answer.
-/
import Derived.Test.YteijgcejelebiaaPack5
import Derived.Test.YteijgcejelebiaaLinesCode
import Derived.ProofKit
import Derived.IntWalk
namespace Ab
open Go
set_option linter.unusedVariables false
set_option linter.unusedSimpArgs false
set_option maxRecDepth 100000

theorem e242 : tF 242 = some (.code c242) := by kernel_rfl
theorem e244 : tF 244 = some (.code c244) := by kernel_rfl
theorem e246 : tF 246 = some (.code c246) := by kernel_rfl
theorem e247 : tF 247 = some (.code c247) := by kernel_rfl
theorem e248 : tF 248 = some (.code c248) := by kernel_rfl
theorem e249 : tF 249 = some (.code c249) := by kernel_rfl
theorem e250 : tF 250 = some (.code c250) := by kernel_rfl
theorem e251 : tF 251 = some (.code c251) := by kernel_rfl
theorem e252 : tF 252 = some (.code c252) := by kernel_rfl
theorem e253 : tF 253 = some (.code c253) := by kernel_rfl
theorem e254 : tF 254 = some (.code c254) := by kernel_rfl
theorem e10246 : tF 10246 = some (.round [8] [3] a10246 b10246) := by kernel_rfl
theorem e10253 : tF 10253 = some (.round [7] [0, 1, 2] a10253 b10253) := by kernel_rfl

theorem i64_in {n : Int} (h1 : -9223372036854775808 ≤ n) (h2 : n ≤ 9223372036854775807) : IntKind.i64.wrap n = n := Go.IntWalk.i64_in n ⟨h1, h2⟩
theorem roomy8 {n : Nat} (h : n ≤ 100000) : roomy n 8 = true := by unfold roomy; exact decide_eq_true (by omega)

/-- numbers as rows. -/
def rowsI (l : List Int) : List (List D) := l.map fun n => [.i .i64 n]
theorem rowsI_length (l : List Int) : (rowsI l).length = l.length := by simp [rowsI]
theorem rowsI_append (a b : List Int) : rowsI (a ++ b) = rowsI a ++ rowsI b := by simp [rowsI]
theorem rowsI_snoc (a : List Int) (n : Int) : rowsI a ++ [[.i .i64 n]] = rowsI (a ++ [n]) := by simp [rowsI]
theorem rowsI_get (l : List Int) (i : Nat) : (rowsI l)[i]? = (l[i]?).map fun n => [.i .i64 n] := by simp [rowsI]

/-- places behind line ends, from a place on. -/
def endsF : List UInt8 → Nat → List Int
  | [], _ => []
  | c :: r, i => if (c.toNat : Int) = 10 then ((i + 1 : Nat) : Int) :: endsF r (i + 1) else endsF r (i + 1)

theorem starts_round (l : List Int) (n : Int) (hr : l.length ≤ 1000) : lcall tF 10246 [.fn 10246 [.map 0] [], .d (.i .i64 n)] [some (.lp 0 10246 [.ptr 1 0]), some (.box [.own 2 0 1 (rowsI l)]), some (.tok 0 1)] =
    some (.d (.b true), [some (.lp 0 10246 [.ptr 1 0]), some (.box [.own 2 1 1 (rowsI (l ++ [n]))]), some (.tok 1 1)]) := by
  have r8 : roomy (l.length + 1) 8 = true := roomy8 (by omega)
  refine call_round e10246 (id := 0) rfl rfl rfl ?_
  refine wx_region fun K hK => ?_
  simp only [List.getD_cons_zero, List.getD_cons_succ, Nat.reduceBEq, Bool.or_self, Bool.or_false, Bool.false_or, Bool.or_true, Bool.true_or, Bool.false_eq_true, evG, evW, evX, evM, evN, evC, far, ↓reduceIte, Nat.reduceEqDiff, Nat.reduceAdd, Nat.reduceLeDiff, Nat.reduceSub, Nat.reduceLT, reduceCtorEq, not_true_eq_false, not_false_eq_true, Int.reduceEq, Int.reduceLT, Int.reduceLE, Int.reduceNeg]
  refine hK _ _ ?_; clear hK K
  simp only [List.getD_cons_zero, List.getD_cons_succ, Nat.reduceBEq, Bool.or_self, Bool.or_false, Bool.false_or, Bool.or_true, Bool.true_or, Bool.false_eq_true, evG, evW, evX, evM, evN, evC, far, ↓reduceIte, Nat.reduceEqDiff, Nat.reduceAdd, Nat.reduceLeDiff, Nat.reduceSub, Nat.reduceLT, reduceCtorEq, not_true_eq_false, not_false_eq_true, Int.reduceEq, Int.reduceLT, Int.reduceLE, Int.reduceNeg]
  refine wx_block ?_
  refine wx_region fun K hK => ?_
  simp only [List.getD_cons_zero, List.getD_cons_succ, Nat.reduceBEq, Bool.or_self, Bool.or_false, Bool.false_or, Bool.or_true, Bool.true_or, Bool.false_eq_true, evG, evW, evX, evM, evN, evC, far, ↓reduceIte, Nat.reduceEqDiff, Nat.reduceAdd, Nat.reduceLeDiff, Nat.reduceSub, Nat.reduceLT, reduceCtorEq, not_true_eq_false, not_false_eq_true, Int.reduceEq, Int.reduceLT, Int.reduceLE, Int.reduceNeg, rowsI_length, r8, rowsI_snoc]
  refine hK _ _ ?_; clear hK K
  simp only [List.getD_cons_zero, List.getD_cons_succ, Nat.reduceBEq, Bool.or_self, Bool.or_false, Bool.false_or, Bool.or_true, Bool.true_or, Bool.false_eq_true, evG, evR, evX, evC, evN, ↓reduceIte, Nat.reduceEqDiff, Nat.reduceAdd, Nat.reduceLeDiff, Nat.reduceLT, Nat.reduceSub, reduceCtorEq, far, blockQ]

def endsLoop : CCode := match c254.body with
  | .seq _ (.block _ (.loop _ c)) => c
  | _ => .skip

set_option maxHeartbeats 1000000 in
theorem ends_loop1 {s : List UInt8} (hs : s.length ≤ 500) {Q : Ex → St → Prop} : ∀ (m i : Nat) (l : List Int), i + m = s.length → l.length ≤ i + 100 →
    (∀ tm, Q (.exit 0) ⟨tm, [some (.lp 0 10246 [.ptr 1 0]), some (.box [.own 2 0 1 (rowsI (l ++ endsF (s.drop i) i))]), some (.tok 0 1)]⟩) →
    LX tF endsLoop ⟨[0, 1, 5, 6], [], [], [], [], true⟩ 3 ⟨[(0, .fn 10246 [.map 0] []), (1, .d (.q [.s s] 0)), (5, .d (.i .i64 s.length)), (6, .d (.i .i64 i))], [some (.lp 0 10246 [.ptr 1 0]), some (.box [.own 2 0 1 (rowsI l)]), some (.tok 0 1)]⟩ Q := by
  intro m
  induction m with
  | zero =>
    intro i l hi hl hQ
    have hn : ¬ ((i : Int) < s.length) := by omega
    rw [List.drop_eq_nil_of_le (by omega)] at hQ
    simp only [endsF, List.append_nil] at hQ
    refine lx_step (wx_seq ?_)
    refine wx_region fun K hK => ?_
    simp only [List.getD_cons_zero, List.getD_cons_succ, Nat.reduceBEq, Bool.or_self, Bool.or_false, Bool.false_or, Bool.or_true, Bool.true_or, Bool.false_eq_true, evG, evW, evX, evM, evN, evC, far, ↓reduceIte, Nat.reduceEqDiff, Nat.reduceAdd, Nat.reduceLeDiff, Nat.reduceSub, Nat.reduceLT, reduceCtorEq, not_true_eq_false, not_false_eq_true, Int.reduceEq, Int.reduceLT, Int.reduceLE, Int.reduceNeg, hn]
    refine hK _ _ ?_; clear hK K
    refine wx_seq (wx_cond false rfl (fun h => by cases h) (fun _ => wx_exit ?_))
    exact hQ _
  | succ m ih =>
    intro i l hi hl hQ
    have hy : (i : Int) < s.length := by omega
    have la : i < s.length := by omega
    have h0 : (0 : Int) ≤ i := by omega
    have ga : s[i]? = some s[i] := List.getElem?_eq_getElem la
    have w : IntKind.i64.wrap ((i : Int) + 1) = ((i + 1 : Nat) : Int) := by rw [i64_in (by omega) (by omega)]; omega
    rw [List.drop_eq_getElem_cons la] at hQ
    simp only [endsF] at hQ
    generalize s[i] = c at *
    refine lx_step (wx_seq ?_)
    refine wx_region fun K hK => ?_
    simp only [List.getD_cons_zero, List.getD_cons_succ, Nat.reduceBEq, Bool.or_self, Bool.or_false, Bool.false_or, Bool.or_true, Bool.true_or, Bool.false_eq_true, evG, evW, evX, evM, evN, evC, far, ↓reduceIte, Nat.reduceEqDiff, Nat.reduceAdd, Nat.reduceLeDiff, Nat.reduceSub, Nat.reduceLT, reduceCtorEq, not_true_eq_false, not_false_eq_true, Int.reduceEq, Int.reduceLT, Int.reduceLE, Int.reduceNeg, hy]
    refine hK _ _ ?_; clear hK K
    refine wx_seq (wx_cond true rfl (fun _ => wx_skip ?_) (fun h => by cases h))
    refine wx_seq (wx_block ?_)
    refine wx_seq (wx_region fun K hK => ?_)
    simp only [List.getD_cons_zero, List.getD_cons_succ, Nat.reduceBEq, Bool.or_self, Bool.or_false, Bool.false_or, Bool.or_true, Bool.true_or, Bool.false_eq_true, evG, evW, evX, evM, evN, evC, far, ↓reduceIte, Nat.reduceEqDiff, Nat.reduceAdd, Nat.reduceLeDiff, Nat.reduceSub, Nat.reduceLT, reduceCtorEq, not_true_eq_false, not_false_eq_true, Int.reduceEq, Int.reduceLT, Int.reduceLE, Int.reduceNeg]
    refine hK _ _ ?_; clear hK K
    refine wx_seq ?_
    by_cases hc : (c.toNat : Int) = 10
    · rw [if_pos hc] at hQ
      have c1 := starts_round l ((i + 1 : Nat) : Int) (by omega)
      refine wx_region fun K hK => ?_
      simp only [List.getD_cons_zero, List.getD_cons_succ, Nat.reduceBEq, Bool.or_self, Bool.or_false, Bool.false_or, Bool.or_true, Bool.true_or, Bool.false_eq_true, evG, evW, evX, evM, evN, evC, far, ↓reduceIte, Nat.reduceEqDiff, Nat.reduceAdd, Nat.reduceLeDiff, Nat.reduceSub, Nat.reduceLT, reduceCtorEq, not_true_eq_false, not_false_eq_true, Int.reduceEq, Int.reduceLT, Int.reduceLE, Int.reduceNeg, h0, Int.toNat_natCast, ga, w, c1, eq_true hc]
      refine hK _ _ ?_; clear hK K
      refine wx_cond false rfl (fun h => by cases h) (fun _ => wx_skip ?_)
      refine wx_region fun K hK => ?_
      simp only [List.getD_cons_zero, List.getD_cons_succ, Nat.reduceBEq, Bool.or_self, Bool.or_false, Bool.false_or, Bool.or_true, Bool.true_or, Bool.false_eq_true, evG, evW, evX, evM, evN, evC, far, ↓reduceIte, Nat.reduceEqDiff, Nat.reduceAdd, Nat.reduceLeDiff, Nat.reduceSub, Nat.reduceLT, reduceCtorEq, not_true_eq_false, not_false_eq_true, Int.reduceEq, Int.reduceLT, Int.reduceLE, Int.reduceNeg, w]
      refine hK _ _ ?_; clear hK K
      refine ⟨_, ?_, ih (i + 1) (l ++ [((i + 1 : Nat) : Int)]) (by omega) (by simp; omega) (by simpa using hQ)⟩
      simp only [List.getD_cons_zero, List.getD_cons_succ, Nat.reduceBEq, Bool.or_self, Bool.or_false, Bool.false_or, Bool.or_true, Bool.true_or, Bool.false_eq_true, evG, evC, evH, evX, evN, ↓reduceIte, Nat.reduceEqDiff, Nat.reduceAdd, Nat.reduceLeDiff, Nat.reduceLT, Nat.reduceSub, reduceCtorEq]
    · rw [if_neg hc] at hQ
      refine wx_region fun K hK => ?_
      simp only [List.getD_cons_zero, List.getD_cons_succ, Nat.reduceBEq, Bool.or_self, Bool.or_false, Bool.false_or, Bool.or_true, Bool.true_or, Bool.false_eq_true, evG, evW, evX, evM, evN, evC, far, ↓reduceIte, Nat.reduceEqDiff, Nat.reduceAdd, Nat.reduceLeDiff, Nat.reduceSub, Nat.reduceLT, reduceCtorEq, not_true_eq_false, not_false_eq_true, Int.reduceEq, Int.reduceLT, Int.reduceLE, Int.reduceNeg, h0, Int.toNat_natCast, ga, w, hc]
      refine hK _ _ ?_; clear hK K
      refine wx_cond false rfl (fun h => by cases h) (fun _ => wx_skip ?_)
      refine wx_region fun K hK => ?_
      simp only [List.getD_cons_zero, List.getD_cons_succ, Nat.reduceBEq, Bool.or_self, Bool.or_false, Bool.false_or, Bool.or_true, Bool.true_or, Bool.false_eq_true, evG, evW, evX, evM, evN, evC, far, ↓reduceIte, Nat.reduceEqDiff, Nat.reduceAdd, Nat.reduceLeDiff, Nat.reduceSub, Nat.reduceLT, reduceCtorEq, not_true_eq_false, not_false_eq_true, Int.reduceEq, Int.reduceLT, Int.reduceLE, Int.reduceNeg, w]
      refine hK _ _ ?_; clear hK K
      refine ⟨_, ?_, ih (i + 1) l (by omega) (by omega) hQ⟩
      simp only [List.getD_cons_zero, List.getD_cons_succ, Nat.reduceBEq, Bool.or_self, Bool.or_false, Bool.false_or, Bool.or_true, Bool.true_or, Bool.false_eq_true, evG, evC, evH, evX, evN, ↓reduceIte, Nat.reduceEqDiff, Nat.reduceAdd, Nat.reduceLeDiff, Nat.reduceLT, Nat.reduceSub, reduceCtorEq]

theorem ends1_call (s : List UInt8) (l : List Int) (hs : s.length ≤ 500) (hl : l.length ≤ 100) : lcall tF 254 [.fn 10246 [.map 0] [], .d (.q [.s s] 0)] [some (.lp 0 10246 [.ptr 1 0]), some (.box [.own 2 0 1 (rowsI l)]), some (.tok 0 1)] =
    some (.tup [], [some (.lp 0 10246 [.ptr 1 0]), some (.box [.own 2 0 1 (rowsI (l ++ endsF s 0))]), some (.tok 0 1)]) := by
  refine call_wx e254 ?_
  refine wx_seq (wx_region fun K hK => ?_)
  simp only [List.getD_cons_zero, List.getD_cons_succ, Nat.reduceBEq, Bool.or_self, Bool.or_false, Bool.false_or, Bool.or_true, Bool.true_or, Bool.false_eq_true, evG, evW, evX, evM, evN, evC, far, ↓reduceIte, Nat.reduceEqDiff, Nat.reduceAdd, Nat.reduceLeDiff, Nat.reduceSub, Nat.reduceLT, reduceCtorEq, not_true_eq_false, not_false_eq_true, Int.reduceEq, Int.reduceLT, Int.reduceLE, Int.reduceNeg]
  refine hK _ _ ?_; clear hK K
  refine wx_block (wx_loop ?_)
  simp only [List.getD_cons_zero, List.getD_cons_succ, Nat.reduceBEq, Bool.or_self, Bool.or_false, Bool.false_or, Bool.or_true, Bool.true_or, Bool.false_eq_true, evG, evC, evH, evX, evN, ↓reduceIte, Nat.reduceEqDiff, Nat.reduceAdd, Nat.reduceLeDiff, Nat.reduceLT, Nat.reduceSub, reduceCtorEq]
  refine ends_loop1 hs s.length 0 l (by omega) (by omega) (fun tm => ⟨.inl rfl, ?_⟩)
  simp only [List.getD_cons_zero, List.getD_cons_succ, Nat.reduceBEq, Bool.or_self, Bool.or_false, Bool.false_or, Bool.or_true, Bool.true_or, Bool.false_eq_true, evG, evR, evX, evC, evN, ↓reduceIte, Nat.reduceEqDiff, Nat.reduceAdd, Nat.reduceLeDiff, Nat.reduceLT, Nat.reduceSub, reduceCtorEq, far, c254, List.drop_zero]

theorem ends_call (s : List UInt8) : lcall tF 250 [.d (.s s)] [] = some (.d (.f 254 [] [.q [.s s] 0]), []) := by
  refine call_q e250 ?_
  simp only [List.getD_cons_zero, List.getD_cons_succ, Nat.reduceBEq, Bool.or_self, Bool.or_false, Bool.false_or, Bool.or_true, Bool.true_or, Bool.and_true, Bool.true_and, Bool.and_self, Bool.and_false, Bool.false_and, Bool.not_false, Bool.not_true, Bool.false_eq_true, evQ, evK, evG, evW, evX, evM, evN, evC, evR, evH, far, ↓reduceIte, Nat.reduceEqDiff, Nat.reduceAdd, Nat.reduceLeDiff, Nat.reduceSub, Nat.reduceLT, reduceCtorEq, not_true_eq_false, not_false_eq_true, Int.reduceEq, Int.reduceLT, Int.reduceLE, Int.reduceNeg, Int.toNat_natCast, true_and, c250]

theorem starts_call (s : List UInt8) (hs : s.length ≤ 500) : lcall tF 246 [.d (.s s)] [] = some (.d (.l 1 (rowsI (0 :: endsF s 0))), []) := by
  have c1 := ends_call s
  have c2 := ends1_call s [0] hs (by simp)
  have r0 : ([[.i .i64 0]] : List (List D)) = rowsI [0] := rfl
  rw [← r0] at c2
  refine call_q e246 ?_
  simp only [List.getD_cons_zero, List.getD_cons_succ, Nat.reduceBEq, Bool.or_self, Bool.or_false, Bool.false_or, Bool.or_true, Bool.true_or, Bool.and_true, Bool.true_and, Bool.and_self, Bool.and_false, Bool.false_and, Bool.not_false, Bool.not_true, Bool.false_eq_true, evQ, evK, evG, evW, evX, evM, evN, evC, evR, evH, far, ↓reduceIte, Nat.reduceEqDiff, Nat.reduceAdd, Nat.reduceLeDiff, Nat.reduceSub, Nat.reduceLT, reduceCtorEq, not_true_eq_false, not_false_eq_true, Int.reduceEq, Int.reduceLT, Int.reduceLE, Int.reduceNeg, Int.toNat_natCast, true_and, c246, c1, c2, List.cons_append, List.nil_append]
end Ab
