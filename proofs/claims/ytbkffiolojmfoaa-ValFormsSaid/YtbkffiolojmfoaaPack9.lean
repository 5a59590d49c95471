/-
  How values stand: the program's Compare.
-/
import Derived.Test.YtbkffiolojmfoaaPack8
set_option linter.unusedSimpArgs false
set_option linter.unusedVariables false
set_option linter.unusedSectionVars false
set_option linter.unnecessarySimpa false
namespace Ab
open Go
set_option linter.unusedVariables false
set_option linter.unusedSimpArgs false
set_option maxRecDepth 100000
variable {E : Nat → Option Fn}

theorem made_ok (h108 : E 108 = some (.code c108)) (l : List UInt8) : lcall E 108 [.d (.l 1 (byteRows l))] [] = some (.ptr 0 0, [pbox l 0]) := by
  refine call_wx h108 ?_
  refine wx_seq (wx_region fun K hK => ?_)
  simp only [evW, evX, evM, evN, evC, far, ↓reduceIte, Nat.reduceEqDiff, Nat.reduceAdd, Nat.reduceLeDiff, Nat.reduceSub, Nat.reduceLT, reduceCtorEq, not_true_eq_false, not_false_eq_true, Int.reduceEq, Int.reduceLT, Int.reduceLE, Int.reduceNeg]
  refine hK _ _ ?_; clear hK K
  refine wx_seq (wx_region fun K hK => ?_)
  simp only [evW, evX, evM, evN, evC, far, ↓reduceIte, Nat.reduceEqDiff, Nat.reduceAdd, Nat.reduceLeDiff, Nat.reduceSub, Nat.reduceLT, reduceCtorEq, not_true_eq_false, not_false_eq_true, Int.reduceEq, Int.reduceLT, Int.reduceLE, Int.reduceNeg]
  refine hK _ _ ?_; clear hK K
  refine wx_ret ⟨.inr rfl, ?_⟩
  simp only [evR, evX, evC, evN, ↓reduceIte, Nat.reduceEqDiff, Nat.reduceAdd, Nat.reduceLeDiff, Nat.reduceLT, Nat.reduceSub, reduceCtorEq, far, c108]
  rfl

def c3 (lt gt : Bool) : Int := if lt then -1 else if gt then 1 else 0

theorem nan143 (hk : E 143 = some (.code c143)) (x : Int) : lcall E 143 [.d (.i .i64 x)] [] = some (.d (.b false), []) := by
  refine call_wx hk ?_
  refine wx_seq (wx_region fun K hK => ?_)
  simp only [evW, evX, evM, evN, evC, far, ↓reduceIte, Nat.reduceEqDiff, Nat.reduceAdd, Nat.reduceLeDiff, Nat.reduceSub, Nat.reduceLT, reduceCtorEq, not_true_eq_false, not_false_eq_true, Int.reduceEq, Int.reduceLT, Int.reduceLE, Int.reduceNeg]
  refine hK _ _ ?_; clear hK K
  refine wx_seq (wx_region fun K hK => ?_)
  simp only [evW, evX, evM, evN, evC, far, ↓reduceIte, Nat.reduceEqDiff, Nat.reduceAdd, Nat.reduceLeDiff, Nat.reduceSub, Nat.reduceLT, reduceCtorEq, not_true_eq_false, not_false_eq_true, Int.reduceEq, Int.reduceLT, Int.reduceLE, Int.reduceNeg]
  refine hK _ _ ?_; clear hK K
  refine wx_ret ⟨.inr rfl, ?_⟩
  simp only [evR, evX, evC, evN, ↓reduceIte, Nat.reduceEqDiff, Nat.reduceAdd, Nat.reduceLeDiff, Nat.reduceLT, Nat.reduceSub, reduceCtorEq, far, c143]

theorem cmp127 (hk : E 143 = some (.code c143)) (hc : E 127 = some (.code c127)) (x y : Int) : lcall E 127 [.d (.i .i64 x), .d (.i .i64 y)] [] = some (.d (.i .i64 (c3 (decide (x < y)) (decide (y < x)))), []) := by
  have n1 := nan143 hk x
  have n2 := nan143 hk y
  refine call_wx hc ?_
  refine wx_seq (wx_region fun K hK => ?_)
  simp only [evW, evX, evM, evN, evC, far, ↓reduceIte, Nat.reduceEqDiff, Nat.reduceAdd, Nat.reduceLeDiff, Nat.reduceSub, Nat.reduceLT, reduceCtorEq, not_true_eq_false, not_false_eq_true, Int.reduceEq, Int.reduceLT, Int.reduceLE, Int.reduceNeg]
  refine hK _ _ ?_; clear hK K
  refine wx_seq (wx_region fun K hK => ?_)
  simp only [evW, evX, evM, evN, evC, far, ↓reduceIte, Nat.reduceEqDiff, Nat.reduceAdd, Nat.reduceLeDiff, Nat.reduceSub, Nat.reduceLT, reduceCtorEq, not_true_eq_false, not_false_eq_true, Int.reduceEq, Int.reduceLT, Int.reduceLE, Int.reduceNeg, n1]
  refine hK _ _ ?_; clear hK K
  refine wx_seq (wx_region fun K hK => ?_)
  simp only [evW, evX, evM, evN, evC, far, ↓reduceIte, Nat.reduceEqDiff, Nat.reduceAdd, Nat.reduceLeDiff, Nat.reduceSub, Nat.reduceLT, reduceCtorEq, not_true_eq_false, not_false_eq_true, Int.reduceEq, Int.reduceLT, Int.reduceLE, Int.reduceNeg, n2]
  refine hK _ _ ?_; clear hK K
  refine wx_seq (wx_seq ?_)
  refine wx_region fun K hK => ?_
  simp only [evW, evX, evM, evN, evC, far, ↓reduceIte, Nat.reduceEqDiff, Nat.reduceAdd, Nat.reduceLeDiff, Nat.reduceSub, Nat.reduceLT, reduceCtorEq, not_true_eq_false, not_false_eq_true, Int.reduceEq, Int.reduceLT, Int.reduceLE, Int.reduceNeg]
  refine hK _ _ ?_; clear hK K
  refine wx_cond false rfl (fun h => by cases h) (fun _ => wx_skip ?_)
  refine wx_seq (wx_seq ?_)
  refine wx_region fun K hK => ?_
  simp only [evW, evX, evM, evN, evC, far, ↓reduceIte, Nat.reduceEqDiff, Nat.reduceAdd, Nat.reduceLeDiff, Nat.reduceSub, Nat.reduceLT, reduceCtorEq, not_true_eq_false, not_false_eq_true, Int.reduceEq, Int.reduceLT, Int.reduceLE, Int.reduceNeg]
  refine hK _ _ ?_; clear hK K
  refine wx_cond false rfl (fun h => by cases h) (fun _ => wx_skip ?_)
  refine wx_seq (wx_seq ?_)
  refine wx_region fun K hK => ?_
  simp only [evW, evX, evM, evN, evC, far, ↓reduceIte, Nat.reduceEqDiff, Nat.reduceAdd, Nat.reduceLeDiff, Nat.reduceSub, Nat.reduceLT, reduceCtorEq, not_true_eq_false, not_false_eq_true, Int.reduceEq, Int.reduceLT, Int.reduceLE, Int.reduceNeg]
  refine hK _ _ ?_; clear hK K
  refine wx_cond _ rfl (fun h => ?_) (fun h => wx_skip ?_)
  · refine wx_seq (wx_region fun K hK => ?_)
    simp only [evW, evX, evM, evN, evC, far, ↓reduceIte, Nat.reduceEqDiff, Nat.reduceAdd, Nat.reduceLeDiff, Nat.reduceSub, Nat.reduceLT, reduceCtorEq, not_true_eq_false, not_false_eq_true, Int.reduceEq, Int.reduceLT, Int.reduceLE, Int.reduceNeg]
    refine hK _ _ ?_; clear hK K
    refine wx_ret ⟨.inr rfl, ?_⟩
    simp only [evR, evX, evC, evN, ↓reduceIte, Nat.reduceEqDiff, Nat.reduceAdd, Nat.reduceLeDiff, Nat.reduceLT, Nat.reduceSub, reduceCtorEq, far, c127, c3, h]
  · refine wx_seq (wx_seq ?_)
    refine wx_region fun K hK => ?_
    simp only [evW, evX, evM, evN, evC, far, ↓reduceIte, Nat.reduceEqDiff, Nat.reduceAdd, Nat.reduceLeDiff, Nat.reduceSub, Nat.reduceLT, reduceCtorEq, not_true_eq_false, not_false_eq_true, Int.reduceEq, Int.reduceLT, Int.reduceLE, Int.reduceNeg]
    refine hK _ _ ?_; clear hK K
    refine wx_cond _ rfl (fun h2 => ?_) (fun h2 => wx_skip ?_)
    · refine wx_seq (wx_region fun K hK => ?_)
      simp only [evW, evX, evM, evN, evC, far, ↓reduceIte, Nat.reduceEqDiff, Nat.reduceAdd, Nat.reduceLeDiff, Nat.reduceSub, Nat.reduceLT, reduceCtorEq, not_true_eq_false, not_false_eq_true, Int.reduceEq, Int.reduceLT, Int.reduceLE, Int.reduceNeg]
      refine hK _ _ ?_; clear hK K
      try simp only [h, Bool.false_or] at h2
      refine wx_ret ⟨.inr rfl, ?_⟩
      simp only [evR, evX, evC, evN, ↓reduceIte, Nat.reduceEqDiff, Nat.reduceAdd, Nat.reduceLeDiff, Nat.reduceLT, Nat.reduceSub, reduceCtorEq, far, c127, c3, h, h2, Bool.false_eq_true]
    · refine wx_seq (wx_region fun K hK => ?_)
      simp only [evW, evX, evM, evN, evC, far, ↓reduceIte, Nat.reduceEqDiff, Nat.reduceAdd, Nat.reduceLeDiff, Nat.reduceSub, Nat.reduceLT, reduceCtorEq, not_true_eq_false, not_false_eq_true, Int.reduceEq, Int.reduceLT, Int.reduceLE, Int.reduceNeg]
      refine hK _ _ ?_; clear hK K
      try simp only [h, Bool.false_or] at h2
      refine wx_ret ⟨.inr rfl, ?_⟩
      simp only [evR, evX, evC, evN, ↓reduceIte, Nat.reduceEqDiff, Nat.reduceAdd, Nat.reduceLeDiff, Nat.reduceLT, Nat.reduceSub, reduceCtorEq, far, c127, c3, h, h2, Bool.false_eq_true]

theorem nan144 (hk : E 144 = some (.code c144)) (x : Int) : lcall E 144 [.d (.i .i64 x)] [] = some (.d (.b false), []) := by
  refine call_wx hk ?_
  refine wx_seq (wx_region fun K hK => ?_)
  simp only [evW, evX, evM, evN, evC, far, ↓reduceIte, Nat.reduceEqDiff, Nat.reduceAdd, Nat.reduceLeDiff, Nat.reduceSub, Nat.reduceLT, reduceCtorEq, not_true_eq_false, not_false_eq_true, Int.reduceEq, Int.reduceLT, Int.reduceLE, Int.reduceNeg]
  refine hK _ _ ?_; clear hK K
  refine wx_seq (wx_region fun K hK => ?_)
  simp only [evW, evX, evM, evN, evC, far, ↓reduceIte, Nat.reduceEqDiff, Nat.reduceAdd, Nat.reduceLeDiff, Nat.reduceSub, Nat.reduceLT, reduceCtorEq, not_true_eq_false, not_false_eq_true, Int.reduceEq, Int.reduceLT, Int.reduceLE, Int.reduceNeg]
  refine hK _ _ ?_; clear hK K
  refine wx_ret ⟨.inr rfl, ?_⟩
  simp only [evR, evX, evC, evN, ↓reduceIte, Nat.reduceEqDiff, Nat.reduceAdd, Nat.reduceLeDiff, Nat.reduceLT, Nat.reduceSub, reduceCtorEq, far, c144]

theorem cmp128 (hk : E 144 = some (.code c144)) (hc : E 128 = some (.code c128)) (x y : Int) : lcall E 128 [.d (.i .i64 x), .d (.i .i64 y)] [] = some (.d (.i .i64 (c3 (decide (x < y)) (decide (y < x)))), []) := by
  have n1 := nan144 hk x
  have n2 := nan144 hk y
  refine call_wx hc ?_
  refine wx_seq (wx_region fun K hK => ?_)
  simp only [evW, evX, evM, evN, evC, far, ↓reduceIte, Nat.reduceEqDiff, Nat.reduceAdd, Nat.reduceLeDiff, Nat.reduceSub, Nat.reduceLT, reduceCtorEq, not_true_eq_false, not_false_eq_true, Int.reduceEq, Int.reduceLT, Int.reduceLE, Int.reduceNeg]
  refine hK _ _ ?_; clear hK K
  refine wx_seq (wx_region fun K hK => ?_)
  simp only [evW, evX, evM, evN, evC, far, ↓reduceIte, Nat.reduceEqDiff, Nat.reduceAdd, Nat.reduceLeDiff, Nat.reduceSub, Nat.reduceLT, reduceCtorEq, not_true_eq_false, not_false_eq_true, Int.reduceEq, Int.reduceLT, Int.reduceLE, Int.reduceNeg, n1]
  refine hK _ _ ?_; clear hK K
  refine wx_seq (wx_region fun K hK => ?_)
  simp only [evW, evX, evM, evN, evC, far, ↓reduceIte, Nat.reduceEqDiff, Nat.reduceAdd, Nat.reduceLeDiff, Nat.reduceSub, Nat.reduceLT, reduceCtorEq, not_true_eq_false, not_false_eq_true, Int.reduceEq, Int.reduceLT, Int.reduceLE, Int.reduceNeg, n2]
  refine hK _ _ ?_; clear hK K
  refine wx_seq (wx_seq ?_)
  refine wx_region fun K hK => ?_
  simp only [evW, evX, evM, evN, evC, far, ↓reduceIte, Nat.reduceEqDiff, Nat.reduceAdd, Nat.reduceLeDiff, Nat.reduceSub, Nat.reduceLT, reduceCtorEq, not_true_eq_false, not_false_eq_true, Int.reduceEq, Int.reduceLT, Int.reduceLE, Int.reduceNeg]
  refine hK _ _ ?_; clear hK K
  refine wx_cond false rfl (fun h => by cases h) (fun _ => wx_skip ?_)
  refine wx_seq (wx_seq ?_)
  refine wx_region fun K hK => ?_
  simp only [evW, evX, evM, evN, evC, far, ↓reduceIte, Nat.reduceEqDiff, Nat.reduceAdd, Nat.reduceLeDiff, Nat.reduceSub, Nat.reduceLT, reduceCtorEq, not_true_eq_false, not_false_eq_true, Int.reduceEq, Int.reduceLT, Int.reduceLE, Int.reduceNeg]
  refine hK _ _ ?_; clear hK K
  refine wx_cond false rfl (fun h => by cases h) (fun _ => wx_skip ?_)
  refine wx_seq (wx_seq ?_)
  refine wx_region fun K hK => ?_
  simp only [evW, evX, evM, evN, evC, far, ↓reduceIte, Nat.reduceEqDiff, Nat.reduceAdd, Nat.reduceLeDiff, Nat.reduceSub, Nat.reduceLT, reduceCtorEq, not_true_eq_false, not_false_eq_true, Int.reduceEq, Int.reduceLT, Int.reduceLE, Int.reduceNeg]
  refine hK _ _ ?_; clear hK K
  refine wx_cond _ rfl (fun h => ?_) (fun h => wx_skip ?_)
  · refine wx_seq (wx_region fun K hK => ?_)
    simp only [evW, evX, evM, evN, evC, far, ↓reduceIte, Nat.reduceEqDiff, Nat.reduceAdd, Nat.reduceLeDiff, Nat.reduceSub, Nat.reduceLT, reduceCtorEq, not_true_eq_false, not_false_eq_true, Int.reduceEq, Int.reduceLT, Int.reduceLE, Int.reduceNeg]
    refine hK _ _ ?_; clear hK K
    refine wx_ret ⟨.inr rfl, ?_⟩
    simp only [evR, evX, evC, evN, ↓reduceIte, Nat.reduceEqDiff, Nat.reduceAdd, Nat.reduceLeDiff, Nat.reduceLT, Nat.reduceSub, reduceCtorEq, far, c128, c3, h]
  · refine wx_seq (wx_seq ?_)
    refine wx_region fun K hK => ?_
    simp only [evW, evX, evM, evN, evC, far, ↓reduceIte, Nat.reduceEqDiff, Nat.reduceAdd, Nat.reduceLeDiff, Nat.reduceSub, Nat.reduceLT, reduceCtorEq, not_true_eq_false, not_false_eq_true, Int.reduceEq, Int.reduceLT, Int.reduceLE, Int.reduceNeg]
    refine hK _ _ ?_; clear hK K
    refine wx_cond _ rfl (fun h2 => ?_) (fun h2 => wx_skip ?_)
    · refine wx_seq (wx_region fun K hK => ?_)
      simp only [evW, evX, evM, evN, evC, far, ↓reduceIte, Nat.reduceEqDiff, Nat.reduceAdd, Nat.reduceLeDiff, Nat.reduceSub, Nat.reduceLT, reduceCtorEq, not_true_eq_false, not_false_eq_true, Int.reduceEq, Int.reduceLT, Int.reduceLE, Int.reduceNeg]
      refine hK _ _ ?_; clear hK K
      try simp only [h, Bool.false_or] at h2
      refine wx_ret ⟨.inr rfl, ?_⟩
      simp only [evR, evX, evC, evN, ↓reduceIte, Nat.reduceEqDiff, Nat.reduceAdd, Nat.reduceLeDiff, Nat.reduceLT, Nat.reduceSub, reduceCtorEq, far, c128, c3, h, h2, Bool.false_eq_true]
    · refine wx_seq (wx_region fun K hK => ?_)
      simp only [evW, evX, evM, evN, evC, far, ↓reduceIte, Nat.reduceEqDiff, Nat.reduceAdd, Nat.reduceLeDiff, Nat.reduceSub, Nat.reduceLT, reduceCtorEq, not_true_eq_false, not_false_eq_true, Int.reduceEq, Int.reduceLT, Int.reduceLE, Int.reduceNeg]
      refine hK _ _ ?_; clear hK K
      try simp only [h, Bool.false_or] at h2
      refine wx_ret ⟨.inr rfl, ?_⟩
      simp only [evR, evX, evC, evN, ↓reduceIte, Nat.reduceEqDiff, Nat.reduceAdd, Nat.reduceLeDiff, Nat.reduceLT, Nat.reduceSub, reduceCtorEq, far, c128, c3, h, h2, Bool.false_eq_true]

theorem nan145 (hk : E 145 = some (.code c145)) (x : List UInt8) : lcall E 145 [.d (.s x)] [] = some (.d (.b false), []) := by
  refine call_wx hk ?_
  refine wx_seq (wx_region fun K hK => ?_)
  simp only [evW, evX, evM, evN, evC, far, ↓reduceIte, Nat.reduceEqDiff, Nat.reduceAdd, Nat.reduceLeDiff, Nat.reduceSub, Nat.reduceLT, reduceCtorEq, not_true_eq_false, not_false_eq_true, Int.reduceEq, Int.reduceLT, Int.reduceLE, Int.reduceNeg]
  refine hK _ _ ?_; clear hK K
  refine wx_seq (wx_region fun K hK => ?_)
  simp only [evW, evX, evM, evN, evC, far, ↓reduceIte, Nat.reduceEqDiff, Nat.reduceAdd, Nat.reduceLeDiff, Nat.reduceSub, Nat.reduceLT, reduceCtorEq, not_true_eq_false, not_false_eq_true, Int.reduceEq, Int.reduceLT, Int.reduceLE, Int.reduceNeg]
  refine hK _ _ ?_; clear hK K
  refine wx_ret ⟨.inr rfl, ?_⟩
  simp only [evR, evX, evC, evN, ↓reduceIte, Nat.reduceEqDiff, Nat.reduceAdd, Nat.reduceLeDiff, Nat.reduceLT, Nat.reduceSub, reduceCtorEq, far, c145]

theorem cmp129 (hk : E 145 = some (.code c145)) (hc : E 129 = some (.code c129)) (x y : List UInt8) : lcall E 129 [.d (.s x), .d (.s y)] [] = some (.d (.i .i64 (c3 (bytesLess x y) (!(bytesLess x y || x == y)))), []) := by
  have n1 := nan145 hk x
  have n2 := nan145 hk y
  refine call_wx hc ?_
  refine wx_seq (wx_region fun K hK => ?_)
  simp only [evW, evX, evM, evN, evC, far, ↓reduceIte, Nat.reduceEqDiff, Nat.reduceAdd, Nat.reduceLeDiff, Nat.reduceSub, Nat.reduceLT, reduceCtorEq, not_true_eq_false, not_false_eq_true, Int.reduceEq, Int.reduceLT, Int.reduceLE, Int.reduceNeg]
  refine hK _ _ ?_; clear hK K
  refine wx_seq (wx_region fun K hK => ?_)
  simp only [evW, evX, evM, evN, evC, far, ↓reduceIte, Nat.reduceEqDiff, Nat.reduceAdd, Nat.reduceLeDiff, Nat.reduceSub, Nat.reduceLT, reduceCtorEq, not_true_eq_false, not_false_eq_true, Int.reduceEq, Int.reduceLT, Int.reduceLE, Int.reduceNeg, n1]
  refine hK _ _ ?_; clear hK K
  refine wx_seq (wx_region fun K hK => ?_)
  simp only [evW, evX, evM, evN, evC, far, ↓reduceIte, Nat.reduceEqDiff, Nat.reduceAdd, Nat.reduceLeDiff, Nat.reduceSub, Nat.reduceLT, reduceCtorEq, not_true_eq_false, not_false_eq_true, Int.reduceEq, Int.reduceLT, Int.reduceLE, Int.reduceNeg, n2]
  refine hK _ _ ?_; clear hK K
  refine wx_seq (wx_seq ?_)
  refine wx_region fun K hK => ?_
  simp only [evW, evX, evM, evN, evC, far, ↓reduceIte, Nat.reduceEqDiff, Nat.reduceAdd, Nat.reduceLeDiff, Nat.reduceSub, Nat.reduceLT, reduceCtorEq, not_true_eq_false, not_false_eq_true, Int.reduceEq, Int.reduceLT, Int.reduceLE, Int.reduceNeg]
  refine hK _ _ ?_; clear hK K
  refine wx_cond false rfl (fun h => by cases h) (fun _ => wx_skip ?_)
  refine wx_seq (wx_seq ?_)
  refine wx_region fun K hK => ?_
  simp only [evW, evX, evM, evN, evC, far, ↓reduceIte, Nat.reduceEqDiff, Nat.reduceAdd, Nat.reduceLeDiff, Nat.reduceSub, Nat.reduceLT, reduceCtorEq, not_true_eq_false, not_false_eq_true, Int.reduceEq, Int.reduceLT, Int.reduceLE, Int.reduceNeg]
  refine hK _ _ ?_; clear hK K
  refine wx_cond false rfl (fun h => by cases h) (fun _ => wx_skip ?_)
  refine wx_seq (wx_seq ?_)
  refine wx_region fun K hK => ?_
  simp only [evW, evX, evM, evN, evC, far, ↓reduceIte, Nat.reduceEqDiff, Nat.reduceAdd, Nat.reduceLeDiff, Nat.reduceSub, Nat.reduceLT, reduceCtorEq, not_true_eq_false, not_false_eq_true, Int.reduceEq, Int.reduceLT, Int.reduceLE, Int.reduceNeg]
  refine hK _ _ ?_; clear hK K
  refine wx_cond _ rfl (fun h => ?_) (fun h => wx_skip ?_)
  · refine wx_seq (wx_region fun K hK => ?_)
    simp only [evW, evX, evM, evN, evC, far, ↓reduceIte, Nat.reduceEqDiff, Nat.reduceAdd, Nat.reduceLeDiff, Nat.reduceSub, Nat.reduceLT, reduceCtorEq, not_true_eq_false, not_false_eq_true, Int.reduceEq, Int.reduceLT, Int.reduceLE, Int.reduceNeg]
    refine hK _ _ ?_; clear hK K
    refine wx_ret ⟨.inr rfl, ?_⟩
    simp only [evR, evX, evC, evN, ↓reduceIte, Nat.reduceEqDiff, Nat.reduceAdd, Nat.reduceLeDiff, Nat.reduceLT, Nat.reduceSub, reduceCtorEq, far, c129, c3, h]
  · refine wx_seq (wx_seq ?_)
    refine wx_region fun K hK => ?_
    simp only [evW, evX, evM, evN, evC, far, ↓reduceIte, Nat.reduceEqDiff, Nat.reduceAdd, Nat.reduceLeDiff, Nat.reduceSub, Nat.reduceLT, reduceCtorEq, not_true_eq_false, not_false_eq_true, Int.reduceEq, Int.reduceLT, Int.reduceLE, Int.reduceNeg]
    refine hK _ _ ?_; clear hK K
    refine wx_cond _ rfl (fun h2 => ?_) (fun h2 => wx_skip ?_)
    · refine wx_seq (wx_region fun K hK => ?_)
      simp only [evW, evX, evM, evN, evC, far, ↓reduceIte, Nat.reduceEqDiff, Nat.reduceAdd, Nat.reduceLeDiff, Nat.reduceSub, Nat.reduceLT, reduceCtorEq, not_true_eq_false, not_false_eq_true, Int.reduceEq, Int.reduceLT, Int.reduceLE, Int.reduceNeg]
      refine hK _ _ ?_; clear hK K
      try simp only [h, Bool.false_or] at h2
      refine wx_ret ⟨.inr rfl, ?_⟩
      simp only [evR, evX, evC, evN, ↓reduceIte, Nat.reduceEqDiff, Nat.reduceAdd, Nat.reduceLeDiff, Nat.reduceLT, Nat.reduceSub, reduceCtorEq, far, c129, c3, h, h2, Bool.false_eq_true]
    · refine wx_seq (wx_region fun K hK => ?_)
      simp only [evW, evX, evM, evN, evC, far, ↓reduceIte, Nat.reduceEqDiff, Nat.reduceAdd, Nat.reduceLeDiff, Nat.reduceSub, Nat.reduceLT, reduceCtorEq, not_true_eq_false, not_false_eq_true, Int.reduceEq, Int.reduceLT, Int.reduceLE, Int.reduceNeg]
      refine hK _ _ ?_; clear hK K
      try simp only [h, Bool.false_or] at h2
      refine wx_ret ⟨.inr rfl, ?_⟩
      simp only [evR, evX, evC, evN, ↓reduceIte, Nat.reduceEqDiff, Nat.reduceAdd, Nat.reduceLeDiff, Nat.reduceLT, Nat.reduceSub, reduceCtorEq, far, c129, c3, h, h2, Bool.false_eq_true]


def orI : List Int → Int
  | [] => 0
  | x :: r => if x = 0 then orI r else x

def intRows (l : List Int) : List (List D) := l.map fun x => [.i .i64 x]

def orLoop : CCode := match c126.body with
  | .seq _ (.seq _ (.seq (.seq _ (.block _ (.loop _ c))) _)) => c
  | _ => .skip

theorem or_loop {l : List Int} (hl : l.length ≤ 1000) {Q : Ex → St → Prop} (hx : ∀ tm, look tm 3 = .d (.i .i64 0) → orI l = 0 → Q (.exit 0) ⟨tm, []⟩) (hr : ∀ tm, look tm 2 = .d (.i .i64 (orI l)) → Q .ret ⟨tm, []⟩) :
    ∀ (n i : Nat), i + n = l.length → orI l = orI (l.drop i) → LX E orLoop ⟨[3, 6, 7, 8], [], [], [], [], true⟩ 0 ⟨[(3, .d (.i .i64 0)), (6, .d (.l 1 (intRows l))), (7, .d (.i .i64 l.length)), (8, .d (.i .i64 i))], []⟩ Q := by
  intro n
  induction n with
  | zero =>
    intro i hi ho
    have hn : ¬ ((i : Int) < l.length) := by omega
    rw [List.drop_eq_nil_of_le (by omega), orI] at ho
    refine lx_step ?_
    refine wx_seq (wx_region fun K hK => ?_)
    simp only [evW, evX, evM, evN, evC, far, ↓reduceIte, Nat.reduceEqDiff, Nat.reduceAdd, Nat.reduceLeDiff, Nat.reduceSub, Nat.reduceLT, reduceCtorEq, not_true_eq_false, not_false_eq_true, Int.reduceEq, Int.reduceLT, Int.reduceLE, Int.reduceNeg, hn]
    refine hK _ _ ?_; clear hK K
    refine wx_seq (wx_cond false rfl (fun h => by cases h) (fun _ => wx_exit ?_))
    exact hx _ rfl ho
  | succ n ihn =>
    intro i hi ho
    have hy : (i : Int) < l.length := by omega
    have la : i < l.length := by omega
    have h0 : (0 : Int) ≤ i := by omega
    have ga : (intRows l)[i]? = some [.i .i64 l[i]] := by simp [intRows, List.getElem?_eq_getElem la]
    rw [drop_cons la, orI] at ho
    generalize l[i] = x at *
    have w : IntKind.i64.wrap ((i : Int) + 1) = ((i + 1 : Nat) : Int) := by rw [i64_in (by omega) (by omega)]; omega
    refine lx_step ?_
    refine wx_seq (wx_region fun K hK => ?_)
    simp only [evW, evX, evM, evN, evC, far, ↓reduceIte, Nat.reduceEqDiff, Nat.reduceAdd, Nat.reduceLeDiff, Nat.reduceSub, Nat.reduceLT, reduceCtorEq, not_true_eq_false, not_false_eq_true, Int.reduceEq, Int.reduceLT, Int.reduceLE, Int.reduceNeg, hy]
    refine hK _ _ ?_; clear hK K
    refine wx_seq (wx_cond true rfl (fun _ => wx_skip ?_) (fun h => by cases h))
    refine wx_seq (wx_block ?_)
    refine wx_seq (wx_region fun K hK => ?_)
    simp only [evW, evX, evM, evN, evC, far, ↓reduceIte, Nat.reduceEqDiff, Nat.reduceAdd, Nat.reduceLeDiff, Nat.reduceSub, Nat.reduceLT, reduceCtorEq, not_true_eq_false, not_false_eq_true, Int.reduceEq, Int.reduceLT, Int.reduceLE, Int.reduceNeg, h0, Int.toNat_natCast, ga]
    refine hK _ _ ?_; clear hK K
    by_cases e : x = 0
    · rw [if_pos e] at ho
      refine wx_seq (wx_region fun K hK => ?_)
      simp only [evW, evX, evM, evN, evC, far, ↓reduceIte, Nat.reduceEqDiff, Nat.reduceAdd, Nat.reduceLeDiff, Nat.reduceSub, Nat.reduceLT, reduceCtorEq, not_true_eq_false, not_false_eq_true, Int.reduceEq, Int.reduceLT, Int.reduceLE, Int.reduceNeg, eq_true e]
      refine hK _ _ ?_; clear hK K
      refine wx_cond false rfl (fun h => by cases h) (fun _ => wx_skip ?_)
      refine wx_region fun K hK => ?_
      simp only [evW, evX, evM, evN, evC, far, ↓reduceIte, Nat.reduceEqDiff, Nat.reduceAdd, Nat.reduceLeDiff, Nat.reduceSub, Nat.reduceLT, reduceCtorEq, not_true_eq_false, not_false_eq_true, Int.reduceEq, Int.reduceLT, Int.reduceLE, Int.reduceNeg, w]
      refine hK _ _ ?_; clear hK K
      refine ⟨_, ?_, ihn (i + 1) (by omega) ho⟩
      simp only [evH, evX, evN, ↓reduceIte, Nat.reduceEqDiff, Nat.reduceAdd, Nat.reduceLeDiff, Nat.reduceLT, Nat.reduceSub, reduceCtorEq]
    · rw [if_neg e] at ho
      refine wx_seq (wx_region fun K hK => ?_)
      simp only [evW, evX, evM, evN, evC, far, ↓reduceIte, Nat.reduceEqDiff, Nat.reduceAdd, Nat.reduceLeDiff, Nat.reduceSub, Nat.reduceLT, reduceCtorEq, not_true_eq_false, not_false_eq_true, Int.reduceEq, Int.reduceLT, Int.reduceLE, Int.reduceNeg, e]
      refine hK _ _ ?_; clear hK K
      refine wx_cond true rfl (fun _ => ?_) (fun h => by cases h)
      refine wx_seq (wx_region fun K hK => ?_)
      simp only [evW, evX, evM, evN, evC, far, ↓reduceIte, Nat.reduceEqDiff, Nat.reduceAdd, Nat.reduceLeDiff, Nat.reduceSub, Nat.reduceLT, reduceCtorEq, not_true_eq_false, not_false_eq_true, Int.reduceEq, Int.reduceLT, Int.reduceLE, Int.reduceNeg]
      refine hK _ _ ?_; clear hK K
      exact wx_ret (hr _ (by rw [ho]; rfl))

theorem or_ok (h126 : E 126 = some (.code c126)) (l : List Int) (hl : l.length ≤ 1000) : lcall E 126 [.d (.l 1 (intRows l))] [] = some (.d (.i .i64 (orI l)), []) := by
  have hlen : (intRows l).length = l.length := by simp [intRows]
  refine call_wx h126 ?_
  refine wx_seq (wx_region fun K hK => ?_)
  simp only [evW, evX, evM, evN, evC, far, ↓reduceIte, Nat.reduceEqDiff, Nat.reduceAdd, Nat.reduceLeDiff, Nat.reduceSub, Nat.reduceLT, reduceCtorEq, not_true_eq_false, not_false_eq_true, Int.reduceEq, Int.reduceLT, Int.reduceLE, Int.reduceNeg]
  refine hK _ _ ?_; clear hK K
  refine wx_seq (wx_region fun K hK => ?_)
  simp only [evW, evX, evM, evN, evC, far, ↓reduceIte, Nat.reduceEqDiff, Nat.reduceAdd, Nat.reduceLeDiff, Nat.reduceSub, Nat.reduceLT, reduceCtorEq, not_true_eq_false, not_false_eq_true, Int.reduceEq, Int.reduceLT, Int.reduceLE, Int.reduceNeg]
  refine hK _ _ ?_; clear hK K
  refine wx_seq (wx_seq ?_)
  refine wx_region fun K hK => ?_
  simp only [evW, evX, evM, evN, evC, far, ↓reduceIte, Nat.reduceEqDiff, Nat.reduceAdd, Nat.reduceLeDiff, Nat.reduceSub, Nat.reduceLT, reduceCtorEq, not_true_eq_false, not_false_eq_true, Int.reduceEq, Int.reduceLT, Int.reduceLE, Int.reduceNeg, hlen]
  refine hK _ _ ?_; clear hK K
  refine wx_block (wx_loop ?_)
  simp only [evH, evX, evN, ↓reduceIte, Nat.reduceEqDiff, Nat.reduceAdd, Nat.reduceLeDiff, Nat.reduceLT, Nat.reduceSub, reduceCtorEq]
  refine or_loop hl (fun tm t3 ho => ?_) (fun tm t2 => ?_) l.length 0 (by omega) rfl
  · refine wx_seq (wx_region fun K hK => ?_)
    simp only [evW, evX, evM, evN, evC, far, ↓reduceIte, Nat.reduceEqDiff, Nat.reduceAdd, Nat.reduceLeDiff, Nat.reduceSub, Nat.reduceLT, reduceCtorEq, not_true_eq_false, not_false_eq_true, Int.reduceEq, Int.reduceLT, Int.reduceLE, Int.reduceNeg, t3]
    refine hK _ _ ?_; clear hK K
    refine wx_ret ⟨.inr rfl, ?_⟩
    simp only [evR, evX, evC, evN, ↓reduceIte, Nat.reduceEqDiff, Nat.reduceAdd, Nat.reduceLeDiff, Nat.reduceLT, Nat.reduceSub, reduceCtorEq, far, c126, ho]
  · refine ⟨.inr rfl, ?_⟩
    simp only [evR, evX, evC, evN, ↓reduceIte, Nat.reduceEqDiff, Nat.reduceAdd, Nat.reduceLeDiff, Nat.reduceLT, Nat.reduceSub, reduceCtorEq, far, c126, t2]

/-! ### rows by their elements -/

def cfLoop : CCode := match c130.body with
  | .seq _ (.seq (.seq _ (.block _ (.loop _ c))) _) => c
  | _ => .skip

theorem cf_loop {f : Nat} {a b : List Val} (ha : a.length ≤ 1000) (hb : b.length ≤ 1000) (ih : ∀ x ∈ a, ∀ y ∈ b, lcall E f [x.arg, y.arg] [] = some (.d (.i .i64 (cmpV x y)), []))
    {Q : Ex → St → Prop} (hx : ∀ tm, look tm 0 = .d (.l 4 (valRows a)) → look tm 1 = .d (.l 4 (valRows b)) → a.length ≤ b.length → cmpL a b = cmpL [] (b.drop a.length) → Q (.exit 0) ⟨tm, []⟩)
    (hr : ∀ tm hp, look tm 6 = .d (.i .i64 (cmpL a b)) → Q .ret ⟨tm, hp⟩) :
    ∀ (n i : Nat), i + n = a.length → i ≤ b.length → cmpL a b = cmpL (a.drop i) (b.drop i) → LX E cfLoop ⟨[0, 1, 2, 11, 12, 13], [], [], [], [], true⟩ 0 ⟨[(0, .d (.l 4 (valRows a))), (1, .d (.l 4 (valRows b))), (2, .d (.f f [] [])), (11, .d (.l 4 (valRows a))), (12, .d (.i .i64 a.length)), (13, .d (.i .i64 i))], []⟩ Q := by
  intro n
  induction n with
  | zero =>
    intro i hi hib hc
    have hna : ¬ ((i : Int) < a.length) := by omega
    have : i = a.length := by omega
    subst this
    rw [List.drop_eq_nil_of_le (Nat.le_refl _)] at hc
    refine lx_step ?_
    refine wx_seq (wx_region fun K hK => ?_)
    simp only [evW, evX, evM, evN, evC, far, ↓reduceIte, Nat.reduceEqDiff, Nat.reduceAdd, Nat.reduceLeDiff, Nat.reduceSub, Nat.reduceLT, reduceCtorEq, not_true_eq_false, not_false_eq_true, Int.reduceEq, Int.reduceLT, Int.reduceLE, Int.reduceNeg, hna]
    refine hK _ _ ?_; clear hK K
    refine wx_seq (wx_cond false rfl (fun h => by cases h) (fun _ => wx_exit ?_))
    exact hx _ rfl rfl hib hc
  | succ n ihn =>
    intro i hi hib hc
    have hya : (i : Int) < a.length := by omega
    have la : i < a.length := by omega
    have h0 : (0 : Int) ≤ i := by omega
    have ga : (valRows a)[i]? = some (Val.row a[i]) := by rw [valRows_get, List.getElem?_eq_getElem la]; rfl
    refine lx_step ?_
    refine wx_seq (wx_region fun K hK => ?_)
    simp only [evW, evX, evM, evN, evC, far, ↓reduceIte, Nat.reduceEqDiff, Nat.reduceAdd, Nat.reduceLeDiff, Nat.reduceSub, Nat.reduceLT, reduceCtorEq, not_true_eq_false, not_false_eq_true, Int.reduceEq, Int.reduceLT, Int.reduceLE, Int.reduceNeg, hya]
    refine hK _ _ ?_; clear hK K
    refine wx_seq (wx_cond true rfl (fun _ => wx_skip ?_) (fun h => by cases h))
    refine wx_seq (wx_block ?_)
    refine wx_seq (wx_region fun K hK => ?_)
    simp only [evW, evX, evM, evN, evC, far, ↓reduceIte, Nat.reduceEqDiff, Nat.reduceAdd, Nat.reduceLeDiff, Nat.reduceSub, Nat.reduceLT, reduceCtorEq, not_true_eq_false, not_false_eq_true, Int.reduceEq, Int.reduceLT, Int.reduceLE, Int.reduceNeg, h0, Int.toNat_natCast, ga, row_eq]
    refine hK _ _ ?_; clear hK K
    by_cases hib2 : i = b.length
    · have hnb : (b.length : Int) ≤ i := by omega
      rw [drop_cons la, List.drop_eq_nil_of_le (show b.length ≤ i by omega), cmpL] at hc
      refine wx_seq (wx_seq ?_)
      refine wx_region fun K hK => ?_
      simp only [evW, evX, evM, evN, evC, far, ↓reduceIte, Nat.reduceEqDiff, Nat.reduceAdd, Nat.reduceLeDiff, Nat.reduceSub, Nat.reduceLT, reduceCtorEq, not_true_eq_false, not_false_eq_true, Int.reduceEq, Int.reduceLT, Int.reduceLE, Int.reduceNeg, valRows_length, hnb]
      refine hK _ _ ?_; clear hK K
      refine wx_cond true rfl (fun _ => ?_) (fun h => by cases h)
      refine wx_seq (wx_region fun K hK => ?_)
      simp only [evW, evX, evM, evN, evC, far, ↓reduceIte, Nat.reduceEqDiff, Nat.reduceAdd, Nat.reduceLeDiff, Nat.reduceSub, Nat.reduceLT, reduceCtorEq, not_true_eq_false, not_false_eq_true, Int.reduceEq, Int.reduceLT, Int.reduceLE, Int.reduceNeg]
      refine hK _ _ ?_; clear hK K
      exact wx_ret (hr _ _ (by rw [hc]; rfl))
    · have hnb : ¬ (b.length : Int) ≤ i := by omega
      have lb : i < b.length := by omega
      have gb : (valRows b)[i]? = some (Val.row b[i]) := by rw [valRows_get, List.getElem?_eq_getElem lb]; rfl
      have hcall := ih a[i] (List.getElem_mem la) b[i] (List.getElem_mem lb)
      rw [drop_cons la, drop_cons lb, cmpL] at hc
      generalize a[i] = x at *
      generalize b[i] = y at *
      refine wx_seq (wx_seq ?_)
      refine wx_region fun K hK => ?_
      simp only [evW, evX, evM, evN, evC, far, ↓reduceIte, Nat.reduceEqDiff, Nat.reduceAdd, Nat.reduceLeDiff, Nat.reduceSub, Nat.reduceLT, reduceCtorEq, not_true_eq_false, not_false_eq_true, Int.reduceEq, Int.reduceLT, Int.reduceLE, Int.reduceNeg, valRows_length, hnb]
      refine hK _ _ ?_; clear hK K
      refine wx_cond false rfl (fun h => by cases h) (fun _ => wx_skip ?_)
      refine wx_seq (wx_region fun K hK => ?_)
      simp only [evW, evX, evM, evN, evC, far, ↓reduceIte, Nat.reduceEqDiff, Nat.reduceAdd, Nat.reduceLeDiff, Nat.reduceSub, Nat.reduceLT, reduceCtorEq, not_true_eq_false, not_false_eq_true, Int.reduceEq, Int.reduceLT, Int.reduceLE, Int.reduceNeg, h0, Int.toNat_natCast, gb, row_eq]
      refine hK _ _ ?_; clear hK K
      refine wx_seq (wx_region fun K hK => ?_)
      simp only [evW, evX, evM, evN, evC, far, ↓reduceIte, Nat.reduceEqDiff, Nat.reduceAdd, Nat.reduceLeDiff, Nat.reduceSub, Nat.reduceLT, reduceCtorEq, not_true_eq_false, not_false_eq_true, Int.reduceEq, Int.reduceLT, Int.reduceLE, Int.reduceNeg, hcall]
      refine hK _ _ ?_; clear hK K
      have w : IntKind.i64.wrap ((i : Int) + 1) = ((i + 1 : Nat) : Int) := by rw [i64_in (by omega) (by omega)]; omega
      by_cases hxy : cmpV x y = 0
      · rw [if_pos hxy] at hc
        refine wx_seq (wx_region fun K hK => ?_)
        simp only [evW, evX, evM, evN, evC, far, ↓reduceIte, Nat.reduceEqDiff, Nat.reduceAdd, Nat.reduceLeDiff, Nat.reduceSub, Nat.reduceLT, reduceCtorEq, not_true_eq_false, not_false_eq_true, Int.reduceEq, Int.reduceLT, Int.reduceLE, Int.reduceNeg, hxy]
        refine hK _ _ ?_; clear hK K
        refine wx_cond false rfl (fun h => by cases h) (fun _ => wx_skip ?_)
        refine wx_region fun K hK => ?_
        simp only [evW, evX, evM, evN, evC, far, ↓reduceIte, Nat.reduceEqDiff, Nat.reduceAdd, Nat.reduceLeDiff, Nat.reduceSub, Nat.reduceLT, reduceCtorEq, not_true_eq_false, not_false_eq_true, Int.reduceEq, Int.reduceLT, Int.reduceLE, Int.reduceNeg, w]
        refine hK _ _ ?_; clear hK K
        refine ⟨_, ?_, ihn (i + 1) (by omega) (by omega) hc⟩
        simp only [evH, evX, evN, ↓reduceIte, Nat.reduceEqDiff, Nat.reduceAdd, Nat.reduceLeDiff, Nat.reduceLT, Nat.reduceSub, reduceCtorEq]
      · rw [if_neg hxy] at hc
        refine wx_seq (wx_region fun K hK => ?_)
        simp only [evW, evX, evM, evN, evC, far, ↓reduceIte, Nat.reduceEqDiff, Nat.reduceAdd, Nat.reduceLeDiff, Nat.reduceSub, Nat.reduceLT, reduceCtorEq, not_true_eq_false, not_false_eq_true, Int.reduceEq, Int.reduceLT, Int.reduceLE, Int.reduceNeg, hxy]
        refine hK _ _ ?_; clear hK K
        refine wx_cond true rfl (fun _ => ?_) (fun h => by cases h)
        refine wx_seq (wx_region fun K hK => ?_)
        simp only [evW, evX, evM, evN, evC, far, ↓reduceIte, Nat.reduceEqDiff, Nat.reduceAdd, Nat.reduceLeDiff, Nat.reduceSub, Nat.reduceLT, reduceCtorEq, not_true_eq_false, not_false_eq_true, Int.reduceEq, Int.reduceLT, Int.reduceLE, Int.reduceNeg]
        refine hK _ _ ?_; clear hK K
        exact wx_ret (hr _ _ (by rw [hc]; rfl))

theorem cf_ok (h130 : E 130 = some (.code c130)) {f : Nat} {a b : List Val} (ha : a.length ≤ 1000) (hb : b.length ≤ 1000) (ih : ∀ x ∈ a, ∀ y ∈ b, lcall E f [x.arg, y.arg] [] = some (.d (.i .i64 (cmpV x y)), [])) :
    lcall E 130 [.d (.l 4 (valRows a)), .d (.l 4 (valRows b)), .d (.f f [] [])] [] = some (.d (.i .i64 (cmpL a b)), []) := by
  refine call_wx h130 ?_
  refine wx_seq (wx_region fun K hK => ?_)
  simp only [evW, evX, evM, evN, evC, far, ↓reduceIte, Nat.reduceEqDiff, Nat.reduceAdd, Nat.reduceLeDiff, Nat.reduceSub, Nat.reduceLT, reduceCtorEq, not_true_eq_false, not_false_eq_true, Int.reduceEq, Int.reduceLT, Int.reduceLE, Int.reduceNeg]
  refine hK _ _ ?_; clear hK K
  refine wx_seq (wx_seq ?_)
  refine wx_region fun K hK => ?_
  simp only [evW, evX, evM, evN, evC, far, ↓reduceIte, Nat.reduceEqDiff, Nat.reduceAdd, Nat.reduceLeDiff, Nat.reduceSub, Nat.reduceLT, reduceCtorEq, not_true_eq_false, not_false_eq_true, Int.reduceEq, Int.reduceLT, Int.reduceLE, Int.reduceNeg, valRows_length]
  refine hK _ _ ?_; clear hK K
  refine wx_block (wx_loop ?_)
  simp only [evH, evX, evN, ↓reduceIte, Nat.reduceEqDiff, Nat.reduceAdd, Nat.reduceLeDiff, Nat.reduceLT, Nat.reduceSub, reduceCtorEq]
  refine cf_loop ha hb ih (fun tm t0 t1 hle hc => ?_) (fun tm hp t6 => ?_) a.length 0 (by omega) (by omega) rfl
  · refine wx_seq (wx_seq ?_)
    by_cases hl : a.length < b.length
    · have hl' : (a.length : Int) < b.length := by omega
      rw [drop_cons hl, cmpL] at hc
      refine wx_region fun K hK => ?_
      simp only [evW, evX, evM, evN, evC, far, ↓reduceIte, Nat.reduceEqDiff, Nat.reduceAdd, Nat.reduceLeDiff, Nat.reduceSub, Nat.reduceLT, reduceCtorEq, not_true_eq_false, not_false_eq_true, Int.reduceEq, Int.reduceLT, Int.reduceLE, Int.reduceNeg, t0, t1, valRows_length, hl']
      refine hK _ _ ?_; clear hK K
      refine wx_cond true rfl (fun _ => ?_) (fun h => by cases h)
      refine wx_seq (wx_region fun K hK => ?_)
      simp only [evW, evX, evM, evN, evC, far, ↓reduceIte, Nat.reduceEqDiff, Nat.reduceAdd, Nat.reduceLeDiff, Nat.reduceSub, Nat.reduceLT, reduceCtorEq, not_true_eq_false, not_false_eq_true, Int.reduceEq, Int.reduceLT, Int.reduceLE, Int.reduceNeg]
      refine hK _ _ ?_; clear hK K
      refine wx_ret ⟨.inr rfl, ?_⟩
      simp only [evR, evX, evC, evN, ↓reduceIte, Nat.reduceEqDiff, Nat.reduceAdd, Nat.reduceLeDiff, Nat.reduceLT, Nat.reduceSub, reduceCtorEq, far, c130, hc]
    · have hl' : ¬ (a.length : Int) < b.length := by omega
      rw [List.drop_eq_nil_of_le (by omega), cmpL] at hc
      refine wx_region fun K hK => ?_
      simp only [evW, evX, evM, evN, evC, far, ↓reduceIte, Nat.reduceEqDiff, Nat.reduceAdd, Nat.reduceLeDiff, Nat.reduceSub, Nat.reduceLT, reduceCtorEq, not_true_eq_false, not_false_eq_true, Int.reduceEq, Int.reduceLT, Int.reduceLE, Int.reduceNeg, t0, t1, valRows_length, hl']
      refine hK _ _ ?_; clear hK K
      refine wx_cond false rfl (fun h => by cases h) (fun _ => wx_skip ?_)
      refine wx_seq (wx_region fun K hK => ?_)
      simp only [evW, evX, evM, evN, evC, far, ↓reduceIte, Nat.reduceEqDiff, Nat.reduceAdd, Nat.reduceLeDiff, Nat.reduceSub, Nat.reduceLT, reduceCtorEq, not_true_eq_false, not_false_eq_true, Int.reduceEq, Int.reduceLT, Int.reduceLE, Int.reduceNeg]
      refine hK _ _ ?_; clear hK K
      refine wx_ret ⟨.inr rfl, ?_⟩
      simp only [evR, evX, evC, evN, ↓reduceIte, Nat.reduceEqDiff, Nat.reduceAdd, Nat.reduceLeDiff, Nat.reduceLT, Nat.reduceSub, reduceCtorEq, far, c130, hc]
  · refine ⟨.inr rfl, ?_⟩
    simp only [evR, evX, evC, evN, ↓reduceIte, Nat.reduceEqDiff, Nat.reduceAdd, Nat.reduceLeDiff, Nat.reduceLT, Nat.reduceSub, reduceCtorEq, far, c130, t6]

theorem or_cmp (a b : Val) : orI [c3 (decide (a.kind < b.kind)) (decide (b.kind < a.kind)), c3 (decide (a.i < b.i)) (decide (b.i < a.i)), c3 (bytesLess a.s b.s) (!(bytesLess a.s b.s || a.s == b.s)), cmpL a.l b.l] = cmpV a b := by
  have hi : ∀ x y : Int, c3 (decide (x < y)) (decide (y < x)) = if x = y then 0 else sgn (decide (x < y)) := fun x y => by
    unfold c3 sgn
    by_cases h : x < y
    · simp [h, show ¬ x = y by omega]
    · by_cases h2 : y < x
      · simp [h, h2, show ¬ x = y by omega]
      · simp [h, h2, show x = y by omega]
  have hs : ∀ x y : List UInt8, c3 (bytesLess x y) (!(bytesLess x y || x == y)) = if x = y then 0 else sgn (bytesLess x y) := fun x y => by
    unfold c3 sgn
    rcases bl_total x y with h | h | h
    · have : x ≠ y := fun e => by rw [e, bl_irrefl] at h; cases h
      simp [h, this]
    · subst h; simp [bl_irrefl]
    · have h2 := bl_asymm h
      have : x ≠ y := fun e => by rw [e, bl_irrefl] at h; cases h
      simp [h2, this]
  have sg : ∀ p, sgn p ≠ 0 := fun p => by cases p <;> simp [sgn]
  have nz : ∀ z : Int, (if z = 0 then 0 else z) = z := fun z => by split <;> omega
  rw [hi, hi, hs, cmpV_eq]
  simp only [orI]
  by_cases e1 : a.kind = b.kind
  · by_cases e2 : a.i = b.i
    · by_cases e3 : a.s = b.s
      · simp [e1, e2, e3, nz]
      · simp [e1, e2, e3, sg]
    · simp [e1, e2, sg]
  · simp [e1, sg]

theorem cmp_ok (h114 : E 114 = some (.code c114)) (h126 : E 126 = some (.code c126)) (h130 : E 130 = some (.code c130)) (c127 : ∀ x y : Int, lcall E 127 [.d (.i .i64 x), .d (.i .i64 y)] [] = some (.d (.i .i64 (c3 (decide (x < y)) (decide (y < x)))), []))
    (c128 : ∀ x y : Int, lcall E 128 [.d (.i .i64 x), .d (.i .i64 y)] [] = some (.d (.i .i64 (c3 (decide (x < y)) (decide (y < x)))), [])) (c129 : ∀ x y : List UInt8, lcall E 129 [.d (.s x), .d (.s y)] [] = some (.d (.i .i64 (c3 (bytesLess x y) (!(bytesLess x y || x == y)))), [])) :
    ∀ (a b : Val), Small a → Small b → lcall E 114 [a.arg, b.arg] [] = some (.d (.i .i64 (cmpV a b)), []) := by
  intro a b ha
  induction ha generalizing b with
  | @mk a hal hsub ih =>
  intro hb
  have hcf := cf_ok h130 hal hb.len (fun x hx y hy => ih x hx y (hb.sub y hy))
  have hor := or_ok h126 [c3 (decide (a.kind < b.kind)) (decide (b.kind < a.kind)), c3 (decide (a.i < b.i)) (decide (b.i < a.i)), c3 (bytesLess a.s b.s) (!(bytesLess a.s b.s || a.s == b.s)), cmpL a.l b.l] (by simp)
  rw [or_cmp] at hor
  simp only [intRows, List.map_cons, List.map_nil] at hor
  refine call_wx h114 ?_
  refine wx_seq (wx_region fun K hK => ?_)
  simp only [evW, evX, evM, evN, evC, far, ↓reduceIte, Nat.reduceEqDiff, Nat.reduceAdd, Nat.reduceLeDiff, Nat.reduceSub, Nat.reduceLT, reduceCtorEq, not_true_eq_false, not_false_eq_true, Int.reduceEq, Int.reduceLT, Int.reduceLE, Int.reduceNeg]
  refine hK _ _ ?_; clear hK K
  refine wx_seq (wx_regionT fun K hK => ?_)
  simp only [evW, evX, evM, evN, evC, far, ↓reduceIte, Nat.reduceEqDiff, Nat.reduceAdd, Nat.reduceLeDiff, Nat.reduceSub, Nat.reduceLT, reduceCtorEq, not_true_eq_false, not_false_eq_true, Int.reduceEq, Int.reduceLT, Int.reduceLE, Int.reduceNeg, c127, c128, c129, hcf, hor]
  refine hK _ _ (by rfl) ?_; clear hK K
  refine wx_ret ⟨.inr rfl, ?_⟩
  simp only [evR, evX, evC, evN, ↓reduceIte, Nat.reduceEqDiff, Nat.reduceAdd, Nat.reduceLeDiff, Nat.reduceLT, Nat.reduceSub, reduceCtorEq, far, c114]
end Ab

/-
  Which values may be: the program's answer.
-/
namespace Ab
open Go
set_option linter.unusedVariables false
set_option linter.unusedSimpArgs false
set_option maxRecDepth 100000
variable {E : Nat → Option Fn}

theorem number_ok (h139 : E 139 = some (.code c139)) (v : Val) : lcall E 139 [v.arg] [] = some (.d (.b (numOk v.kind v.i)), []) := by
  refine call_wx h139 ?_
  refine wx_seq (wx_region fun K hK => ?_)
  simp only [evW, evX, evM, evN, evC, far, ↓reduceIte, Nat.reduceEqDiff, Nat.reduceAdd, Nat.reduceLeDiff, Nat.reduceSub, Nat.reduceLT, reduceCtorEq, not_true_eq_false, not_false_eq_true, Int.reduceEq, Int.reduceLT, Int.reduceLE, Int.reduceNeg]
  refine hK _ _ ?_; clear hK K
  refine wx_seq (wx_seq ?_)
  refine wx_region fun K hK => ?_
  simp only [evW, evX, evM, evN, evC, far, ↓reduceIte, Nat.reduceEqDiff, Nat.reduceAdd, Nat.reduceLeDiff, Nat.reduceSub, Nat.reduceLT, reduceCtorEq, not_true_eq_false, not_false_eq_true, Int.reduceEq, Int.reduceLT, Int.reduceLE, Int.reduceNeg]
  refine hK _ _ ?_; clear hK K
  refine wx_block ?_
  by_cases h1 : v.kind = 1
  · refine wx_seq (wx_region fun K hK => ?_)
    simp only [evW, evX, evM, evN, evC, far, ↓reduceIte, Nat.reduceEqDiff, Nat.reduceAdd, Nat.reduceLeDiff, Nat.reduceSub, Nat.reduceLT, reduceCtorEq, not_true_eq_false, not_false_eq_true, Int.reduceEq, Int.reduceLT, Int.reduceLE, Int.reduceNeg, eq_true h1]
    refine hK _ _ ?_; clear hK K
    refine wx_cond true rfl (fun _ => ?_) (fun h => by cases h)
    refine wx_seq (wx_region fun K hK => ?_)
    simp only [evW, evX, evM, evN, evC, far, ↓reduceIte, Nat.reduceEqDiff, Nat.reduceAdd, Nat.reduceLeDiff, Nat.reduceSub, Nat.reduceLT, reduceCtorEq, not_true_eq_false, not_false_eq_true, Int.reduceEq, Int.reduceLT, Int.reduceLE, Int.reduceNeg]
    refine hK _ _ ?_; clear hK K
    refine wx_ret ⟨.inr rfl, ?_⟩
    simp only [evR, evX, evC, evN, ↓reduceIte, Nat.reduceEqDiff, Nat.reduceAdd, Nat.reduceLeDiff, Nat.reduceLT, Nat.reduceSub, reduceCtorEq, far, c139, numOk, eq_true h1]
  · refine wx_seq (wx_region fun K hK => ?_)
    simp only [evW, evX, evM, evN, evC, far, ↓reduceIte, Nat.reduceEqDiff, Nat.reduceAdd, Nat.reduceLeDiff, Nat.reduceSub, Nat.reduceLT, reduceCtorEq, not_true_eq_false, not_false_eq_true, Int.reduceEq, Int.reduceLT, Int.reduceLE, Int.reduceNeg, h1]
    refine hK _ _ ?_; clear hK K
    refine wx_cond false rfl (fun h => by cases h) (fun _ => ?_)
    by_cases h2 : v.kind = 2
    · refine wx_seq (wx_region fun K hK => ?_)
      simp only [evW, evX, evM, evN, evC, far, ↓reduceIte, Nat.reduceEqDiff, Nat.reduceAdd, Nat.reduceLeDiff, Nat.reduceSub, Nat.reduceLT, reduceCtorEq, not_true_eq_false, not_false_eq_true, Int.reduceEq, Int.reduceLT, Int.reduceLE, Int.reduceNeg, eq_true h2]
      refine hK _ _ ?_; clear hK K
      refine wx_cond true rfl (fun _ => ?_) (fun h => by cases h)
      by_cases h3 : v.i = 0
      · refine wx_seq (wx_region fun K hK => ?_)
        simp only [evW, evX, evM, evN, evC, far, ↓reduceIte, Nat.reduceEqDiff, Nat.reduceAdd, Nat.reduceLeDiff, Nat.reduceSub, Nat.reduceLT, reduceCtorEq, not_true_eq_false, not_false_eq_true, Int.reduceEq, Int.reduceLT, Int.reduceLE, Int.reduceNeg, eq_true h3]
        refine hK _ _ ?_; clear hK K
        refine wx_ret ⟨.inr rfl, ?_⟩
        simp only [evR, evX, evC, evN, ↓reduceIte, Nat.reduceEqDiff, Nat.reduceAdd, Nat.reduceLeDiff, Nat.reduceLT, Nat.reduceSub, reduceCtorEq, far, c139, numOk, h1, eq_true h2]
        simp [h3]
      · refine wx_seq (wx_region fun K hK => ?_)
        simp only [evW, evX, evM, evN, evC, far, ↓reduceIte, Nat.reduceEqDiff, Nat.reduceAdd, Nat.reduceLeDiff, Nat.reduceSub, Nat.reduceLT, reduceCtorEq, not_true_eq_false, not_false_eq_true, Int.reduceEq, Int.reduceLT, Int.reduceLE, Int.reduceNeg, h3]
        refine hK _ _ ?_; clear hK K
        refine wx_ret ⟨.inr rfl, ?_⟩
        simp only [evR, evX, evC, evN, ↓reduceIte, Nat.reduceEqDiff, Nat.reduceAdd, Nat.reduceLeDiff, Nat.reduceLT, Nat.reduceSub, reduceCtorEq, far, c139, numOk, h1, eq_true h2]
        simp [h3]
    · refine wx_seq (wx_region fun K hK => ?_)
      simp only [evW, evX, evM, evN, evC, far, ↓reduceIte, Nat.reduceEqDiff, Nat.reduceAdd, Nat.reduceLeDiff, Nat.reduceSub, Nat.reduceLT, reduceCtorEq, not_true_eq_false, not_false_eq_true, Int.reduceEq, Int.reduceLT, Int.reduceLE, Int.reduceNeg, h2]
      refine hK _ _ ?_; clear hK K
      refine wx_cond false rfl (fun h => by cases h) (fun _ => ?_)
      by_cases h7 : v.kind = 7
      · refine wx_seq (wx_region fun K hK => ?_)
        simp only [evW, evX, evM, evN, evC, far, ↓reduceIte, Nat.reduceEqDiff, Nat.reduceAdd, Nat.reduceLeDiff, Nat.reduceSub, Nat.reduceLT, reduceCtorEq, not_true_eq_false, not_false_eq_true, Int.reduceEq, Int.reduceLT, Int.reduceLE, Int.reduceNeg, eq_true h7]
        refine hK _ _ ?_; clear hK K
        refine wx_cond true rfl (fun _ => ?_) (fun h => by cases h)
        by_cases h3 : 1 ≤ v.i
        · refine wx_seq (wx_region fun K hK => ?_)
          simp only [evW, evX, evM, evN, evC, far, ↓reduceIte, Nat.reduceEqDiff, Nat.reduceAdd, Nat.reduceLeDiff, Nat.reduceSub, Nat.reduceLT, reduceCtorEq, not_true_eq_false, not_false_eq_true, Int.reduceEq, Int.reduceLT, Int.reduceLE, Int.reduceNeg, eq_true h3]
          refine hK _ _ ?_; clear hK K
          refine wx_ret ⟨.inr rfl, ?_⟩
          simp only [evR, evX, evC, evN, ↓reduceIte, Nat.reduceEqDiff, Nat.reduceAdd, Nat.reduceLeDiff, Nat.reduceLT, Nat.reduceSub, reduceCtorEq, far, c139, numOk, h1, h2, eq_true h7]
          simp [h3]
        · refine wx_seq (wx_region fun K hK => ?_)
          simp only [evW, evX, evM, evN, evC, far, ↓reduceIte, Nat.reduceEqDiff, Nat.reduceAdd, Nat.reduceLeDiff, Nat.reduceSub, Nat.reduceLT, reduceCtorEq, not_true_eq_false, not_false_eq_true, Int.reduceEq, Int.reduceLT, Int.reduceLE, Int.reduceNeg, h3]
          refine hK _ _ ?_; clear hK K
          refine wx_ret ⟨.inr rfl, ?_⟩
          simp only [evR, evX, evC, evN, ↓reduceIte, Nat.reduceEqDiff, Nat.reduceAdd, Nat.reduceLeDiff, Nat.reduceLT, Nat.reduceSub, reduceCtorEq, far, c139, numOk, h1, h2, eq_true h7]
          simp [h3]
      · refine wx_seq (wx_region fun K hK => ?_)
        simp only [evW, evX, evM, evN, evC, far, ↓reduceIte, Nat.reduceEqDiff, Nat.reduceAdd, Nat.reduceLeDiff, Nat.reduceSub, Nat.reduceLT, reduceCtorEq, not_true_eq_false, not_false_eq_true, Int.reduceEq, Int.reduceLT, Int.reduceLE, Int.reduceNeg, h7]
        refine hK _ _ ?_; clear hK K
        refine wx_cond false rfl (fun h => by cases h) (fun _ => wx_skip ?_)
        refine wx_seq (wx_region fun K hK => ?_)
        simp only [evW, evX, evM, evN, evC, far, ↓reduceIte, Nat.reduceEqDiff, Nat.reduceAdd, Nat.reduceLeDiff, Nat.reduceSub, Nat.reduceLT, reduceCtorEq, not_true_eq_false, not_false_eq_true, Int.reduceEq, Int.reduceLT, Int.reduceLE, Int.reduceNeg]
        refine hK _ _ ?_; clear hK K
        refine wx_ret ⟨.inr rfl, ?_⟩
        simp only [evR, evX, evC, evN, ↓reduceIte, Nat.reduceEqDiff, Nat.reduceAdd, Nat.reduceLeDiff, Nat.reduceLT, Nat.reduceSub, reduceCtorEq, far, c139, numOk, h1, h2, h7]

theorem pair_ok (h153 : E 153 = some (.code c153)) (v : Val) : lcall E 153 [v.arg] [] = some (.d (.b (pairV v)), []) := by
  refine call_wx h153 ?_
  refine wx_seq (wx_region fun K hK => ?_)
  simp only [evW, evX, evM, evN, evC, far, ↓reduceIte, Nat.reduceEqDiff, Nat.reduceAdd, Nat.reduceLeDiff, Nat.reduceSub, Nat.reduceLT, reduceCtorEq, not_true_eq_false, not_false_eq_true, Int.reduceEq, Int.reduceLT, Int.reduceLE, Int.reduceNeg]
  refine hK _ _ ?_; clear hK K
  by_cases h4 : v.kind = 4
  · by_cases hl : v.l.length = 2
    · obtain ⟨x, y, hxy⟩ : ∃ x y, v.l = [x, y] := by
        match h : v.l, hl with
        | [x, y], _ => exact ⟨x, y, rfl⟩
      refine wx_seq (wx_region fun K hK => ?_)
      simp only [evW, evX, evM, evN, evC, far, ↓reduceIte, Nat.reduceEqDiff, Nat.reduceAdd, Nat.reduceLeDiff, Nat.reduceSub, Nat.reduceLT, reduceCtorEq, not_true_eq_false, not_false_eq_true, Int.reduceEq, Int.reduceLT, Int.reduceLE, Int.reduceNeg, eq_true h4, hxy, valRows, Int.toNat_zero, row_eq, Int.natCast_add, Int.cast_ofNat_Int, Int.reduceAdd, Std.le_refl]
      refine hK _ _ ?_; clear hK K
      refine wx_ret ⟨.inr rfl, ?_⟩
      simp only [evR, evX, evC, evN, ↓reduceIte, Nat.reduceEqDiff, Nat.reduceAdd, Nat.reduceLeDiff, Nat.reduceLT, Nat.reduceSub, reduceCtorEq, far, c153]
      simp [pairV, h4, hxy]
    · have hl' : ¬ ((v.l.length : Int) = 2) := by omega
      refine wx_seq (wx_region fun K hK => ?_)
      simp only [evW, evX, evM, evN, evC, far, ↓reduceIte, Nat.reduceEqDiff, Nat.reduceAdd, Nat.reduceLeDiff, Nat.reduceSub, Nat.reduceLT, reduceCtorEq, not_true_eq_false, not_false_eq_true, Int.reduceEq, Int.reduceLT, Int.reduceLE, Int.reduceNeg, eq_true h4, valRows_length, hl']
      refine hK _ _ ?_; clear hK K
      refine wx_ret ⟨.inr rfl, ?_⟩
      simp only [evR, evX, evC, evN, ↓reduceIte, Nat.reduceEqDiff, Nat.reduceAdd, Nat.reduceLeDiff, Nat.reduceLT, Nat.reduceSub, reduceCtorEq, far, c153]
      have : pairV v = false := by
        unfold pairV
        match h : v.l with
        | [x, y] => rw [h] at hl; simp at hl
        | [] => simp
        | [_] => simp
        | _ :: _ :: _ :: _ => simp
      rw [this]
  · refine wx_seq (wx_region fun K hK => ?_)
    simp only [evW, evX, evM, evN, evC, far, ↓reduceIte, Nat.reduceEqDiff, Nat.reduceAdd, Nat.reduceLeDiff, Nat.reduceSub, Nat.reduceLT, reduceCtorEq, not_true_eq_false, not_false_eq_true, Int.reduceEq, Int.reduceLT, Int.reduceLE, Int.reduceNeg, h4]
    refine hK _ _ ?_; clear hK K
    refine wx_ret ⟨.inr rfl, ?_⟩
    simp only [evR, evX, evC, evN, ↓reduceIte, Nat.reduceEqDiff, Nat.reduceAdd, Nat.reduceLeDiff, Nat.reduceLT, Nat.reduceSub, reduceCtorEq, far, c153]
    simp [pairV, h4]

theorem notpair_ok (h152 : E 152 = some (.code c152)) (h153 : E 153 = some (.code c153)) (v : Val) : lcall E 152 [v.arg] [] = some (.d (.b (!pairV v)), []) := by
  have := pair_ok h153 v
  refine call_wx h152 ?_
  refine wx_seq (wx_region fun K hK => ?_)
  simp only [evW, evX, evM, evN, evC, far, ↓reduceIte, Nat.reduceEqDiff, Nat.reduceAdd, Nat.reduceLeDiff, Nat.reduceSub, Nat.reduceLT, reduceCtorEq, not_true_eq_false, not_false_eq_true, Int.reduceEq, Int.reduceLT, Int.reduceLE, Int.reduceNeg]
  refine hK _ _ ?_; clear hK K
  refine wx_seq (wx_region fun K hK => ?_)
  simp only [evW, evX, evM, evN, evC, far, ↓reduceIte, Nat.reduceEqDiff, Nat.reduceAdd, Nat.reduceLeDiff, Nat.reduceSub, Nat.reduceLT, reduceCtorEq, not_true_eq_false, not_false_eq_true, Int.reduceEq, Int.reduceLT, Int.reduceLE, Int.reduceNeg, this]
  refine hK _ _ ?_; clear hK K
  refine wx_ret ⟨.inr rfl, ?_⟩
  simp only [evR, evX, evC, evN, ↓reduceIte, Nat.reduceEqDiff, Nat.reduceAdd, Nat.reduceLeDiff, Nat.reduceLT, Nat.reduceSub, reduceCtorEq, far, c152]

theorem cmpKey_ok (h154 : E 154 = some (.code c154)) (h137 : ∀ v : Val, lcall E 137 [v.arg] [] = some (.d (.s (keyV v)), [])) (c129 : ∀ x y : List UInt8, lcall E 129 [.d (.s x), .d (.s y)] [] = some (.d (.i .i64 (c3 (bytesLess x y) (!(bytesLess x y || x == y)))), [])) (a b : Val) :
    lcall E 154 [a.arg, b.arg] [] = some (.d (.i .i64 (c3 (bytesLess (keyV a) (keyV b)) (!(bytesLess (keyV a) (keyV b) || keyV a == keyV b)))), []) := by
  have ka := h137 a
  have kb := h137 b
  refine call_wx h154 ?_
  refine wx_seq (wx_region fun K hK => ?_)
  simp only [evW, evX, evM, evN, evC, far, ↓reduceIte, Nat.reduceEqDiff, Nat.reduceAdd, Nat.reduceLeDiff, Nat.reduceSub, Nat.reduceLT, reduceCtorEq, not_true_eq_false, not_false_eq_true, Int.reduceEq, Int.reduceLT, Int.reduceLE, Int.reduceNeg]
  refine hK _ _ ?_; clear hK K
  refine wx_seq (wx_regionT fun K hK => ?_)
  simp only [evW, evX, evM, evN, evC, far, ↓reduceIte, Nat.reduceEqDiff, Nat.reduceAdd, Nat.reduceLeDiff, Nat.reduceSub, Nat.reduceLT, reduceCtorEq, not_true_eq_false, not_false_eq_true, Int.reduceEq, Int.reduceLT, Int.reduceLE, Int.reduceNeg, ka, kb, c129]
  refine hK _ _ (by rfl) ?_; clear hK K
  refine wx_ret ⟨.inr rfl, ?_⟩
  simp only [evR, evX, evC, evN, ↓reduceIte, Nat.reduceEqDiff, Nat.reduceAdd, Nat.reduceLeDiff, Nat.reduceLT, Nat.reduceSub, reduceCtorEq, far, c154]

/-! ### is there one? -/

def idxLoop : CCode := match c155.body with
  | .seq _ (.seq (.seq _ (.block _ (.loop _ c))) _) => c
  | _ => .skip

theorem idx_loop {f : Nat} {l : List Val} (hl : l.length ≤ 1000) {p : Val → Bool} (ih : ∀ x ∈ l, lcall E f [x.arg] [] = some (.d (.b (p x)), [])) {Q : Ex → St → Prop} (hx : ∀ tm, l.any p = false → Q (.exit 0) ⟨tm, []⟩) (hr : ∀ tm hp (i : Nat), l.any p = true → look tm 4 = .d (.i .i64 i) → Q .ret ⟨tm, hp⟩) :
    ∀ (n i : Nat), i + n = l.length → l.any p = (l.drop i).any p → LX E idxLoop ⟨[0, 1, 7, 8], [], [], [], [], true⟩ 0 ⟨[(0, .d (.l 4 (valRows l))), (1, .d (.f f [] [])), (7, .d (.i .i64 l.length)), (8, .d (.i .i64 i))], []⟩ Q := by
  intro n
  induction n with
  | zero =>
    intro i hi ho
    have hn : ¬ ((i : Int) < l.length) := by omega
    rw [List.drop_eq_nil_of_le (by omega), List.any_nil] at ho
    refine lx_step ?_
    refine wx_seq (wx_region fun K hK => ?_)
    simp only [evW, evX, evM, evN, evC, far, ↓reduceIte, Nat.reduceEqDiff, Nat.reduceAdd, Nat.reduceLeDiff, Nat.reduceSub, Nat.reduceLT, reduceCtorEq, not_true_eq_false, not_false_eq_true, Int.reduceEq, Int.reduceLT, Int.reduceLE, Int.reduceNeg, hn]
    refine hK _ _ ?_; clear hK K
    refine wx_seq (wx_cond false rfl (fun h => by cases h) (fun _ => wx_exit ?_))
    exact hx _ ho
  | succ n ihn =>
    intro i hi ho
    have hy : (i : Int) < l.length := by omega
    have la : i < l.length := by omega
    have h0 : (0 : Int) ≤ i := by omega
    have ga : (valRows l)[i]? = some (Val.row l[i]) := by rw [valRows_get, List.getElem?_eq_getElem la]; rfl
    have hcall := ih l[i] (List.getElem_mem la)
    rw [drop_cons la, List.any_cons] at ho
    generalize l[i] = x at *
    have w : IntKind.i64.wrap ((i : Int) + 1) = ((i + 1 : Nat) : Int) := by rw [i64_in (by omega) (by omega)]; omega
    refine lx_step ?_
    refine wx_seq (wx_region fun K hK => ?_)
    simp only [evW, evX, evM, evN, evC, far, ↓reduceIte, Nat.reduceEqDiff, Nat.reduceAdd, Nat.reduceLeDiff, Nat.reduceSub, Nat.reduceLT, reduceCtorEq, not_true_eq_false, not_false_eq_true, Int.reduceEq, Int.reduceLT, Int.reduceLE, Int.reduceNeg, hy]
    refine hK _ _ ?_; clear hK K
    refine wx_seq (wx_cond true rfl (fun _ => wx_skip ?_) (fun h => by cases h))
    refine wx_seq (wx_block ?_)
    refine wx_seq (wx_region fun K hK => ?_)
    simp only [evW, evX, evM, evN, evC, far, ↓reduceIte, Nat.reduceEqDiff, Nat.reduceAdd, Nat.reduceLeDiff, Nat.reduceSub, Nat.reduceLT, reduceCtorEq, not_true_eq_false, not_false_eq_true, Int.reduceEq, Int.reduceLT, Int.reduceLE, Int.reduceNeg]
    refine hK _ _ ?_; clear hK K
    cases hp : p x with
    | true =>
      rw [hp, Bool.true_or] at ho
      refine wx_seq (wx_region fun K hK => ?_)
      simp only [evW, evX, evM, evN, evC, far, ↓reduceIte, Nat.reduceEqDiff, Nat.reduceAdd, Nat.reduceLeDiff, Nat.reduceSub, Nat.reduceLT, reduceCtorEq, not_true_eq_false, not_false_eq_true, Int.reduceEq, Int.reduceLT, Int.reduceLE, Int.reduceNeg, h0, Int.toNat_natCast, ga, row_eq, hcall, hp]
      refine hK _ _ ?_; clear hK K
      refine wx_cond true rfl (fun _ => ?_) (fun h => by cases h)
      refine wx_seq (wx_region fun K hK => ?_)
      simp only [evW, evX, evM, evN, evC, far, ↓reduceIte, Nat.reduceEqDiff, Nat.reduceAdd, Nat.reduceLeDiff, Nat.reduceSub, Nat.reduceLT, reduceCtorEq, not_true_eq_false, not_false_eq_true, Int.reduceEq, Int.reduceLT, Int.reduceLE, Int.reduceNeg]
      refine hK _ _ ?_; clear hK K
      exact wx_ret (hr _ _ i ho rfl)
    | false =>
      rw [hp, Bool.false_or] at ho
      refine wx_seq (wx_region fun K hK => ?_)
      simp only [evW, evX, evM, evN, evC, far, ↓reduceIte, Nat.reduceEqDiff, Nat.reduceAdd, Nat.reduceLeDiff, Nat.reduceSub, Nat.reduceLT, reduceCtorEq, not_true_eq_false, not_false_eq_true, Int.reduceEq, Int.reduceLT, Int.reduceLE, Int.reduceNeg, h0, Int.toNat_natCast, ga, row_eq, hcall, hp]
      refine hK _ _ ?_; clear hK K
      refine wx_cond false rfl (fun h => by cases h) (fun _ => wx_skip ?_)
      refine wx_region fun K hK => ?_
      simp only [evW, evX, evM, evN, evC, far, ↓reduceIte, Nat.reduceEqDiff, Nat.reduceAdd, Nat.reduceLeDiff, Nat.reduceSub, Nat.reduceLT, reduceCtorEq, not_true_eq_false, not_false_eq_true, Int.reduceEq, Int.reduceLT, Int.reduceLE, Int.reduceNeg, w]
      refine hK _ _ ?_; clear hK K
      refine ⟨_, ?_, ihn (i + 1) (by omega) ho⟩
      simp only [evH, evX, evN, ↓reduceIte, Nat.reduceEqDiff, Nat.reduceAdd, Nat.reduceLeDiff, Nat.reduceLT, Nat.reduceSub, reduceCtorEq]

theorem idx_ok (h155 : E 155 = some (.code c155)) {f : Nat} {l : List Val} (hl : l.length ≤ 1000) {p : Val → Bool} (ih : ∀ x ∈ l, lcall E f [x.arg] [] = some (.d (.b (p x)), [])) :
    ∃ i : Int, lcall E 155 [.d (.l 4 (valRows l)), .d (.f f [] [])] [] = some (.d (.i .i64 i), []) ∧ decide (0 ≤ i) = l.any p := by
  have : ∃ r, lcall E 155 [.d (.l 4 (valRows l)), .d (.f f [] [])] [] = some r ∧ ∃ i : Int, r = (.d (.i .i64 i), []) ∧ decide (0 ≤ i) = l.any p := by
    refine call_wxP h155 ?_
    refine wx_seq (wx_region fun K hK => ?_)
    simp only [evW, evX, evM, evN, evC, far, ↓reduceIte, Nat.reduceEqDiff, Nat.reduceAdd, Nat.reduceLeDiff, Nat.reduceSub, Nat.reduceLT, reduceCtorEq, not_true_eq_false, not_false_eq_true, Int.reduceEq, Int.reduceLT, Int.reduceLE, Int.reduceNeg]
    refine hK _ _ ?_; clear hK K
    refine wx_seq (wx_seq ?_)
    refine wx_region fun K hK => ?_
    simp only [evW, evX, evM, evN, evC, far, ↓reduceIte, Nat.reduceEqDiff, Nat.reduceAdd, Nat.reduceLeDiff, Nat.reduceSub, Nat.reduceLT, reduceCtorEq, not_true_eq_false, not_false_eq_true, Int.reduceEq, Int.reduceLT, Int.reduceLE, Int.reduceNeg, valRows_length]
    refine hK _ _ ?_; clear hK K
    refine wx_block (wx_loop ?_)
    simp only [evH, evX, evN, ↓reduceIte, Nat.reduceEqDiff, Nat.reduceAdd, Nat.reduceLeDiff, Nat.reduceLT, Nat.reduceSub, reduceCtorEq]
    refine idx_loop hl ih (fun tm ha => ?_) (fun tm hp i ha t4 => ?_) l.length 0 (by omega) rfl
    · refine wx_seq (wx_region fun K hK => ?_)
      simp only [evW, evX, evM, evN, evC, far, ↓reduceIte, Nat.reduceEqDiff, Nat.reduceAdd, Nat.reduceLeDiff, Nat.reduceSub, Nat.reduceLT, reduceCtorEq, not_true_eq_false, not_false_eq_true, Int.reduceEq, Int.reduceLT, Int.reduceLE, Int.reduceNeg]
      refine hK _ _ ?_; clear hK K
      refine wx_ret ⟨.inr rfl, _, ?_, -1, rfl, by rw [ha]; rfl⟩
      simp only [evR, evX, evC, evN, ↓reduceIte, Nat.reduceEqDiff, Nat.reduceAdd, Nat.reduceLeDiff, Nat.reduceLT, Nat.reduceSub, reduceCtorEq, far, c155]
    · refine ⟨.inr rfl, _, ?_, i, rfl, by rw [ha]; simp⟩
      simp only [evR, evX, evC, evN, ↓reduceIte, Nat.reduceEqDiff, Nat.reduceAdd, Nat.reduceLeDiff, Nat.reduceLT, Nat.reduceSub, reduceCtorEq, far, c155, t4]
  obtain ⟨r, h1, i, rfl, h2⟩ := this
  exact ⟨i, h1, h2⟩

theorem contains_ok (h141 : E 141 = some (.code c141)) (h155 : E 155 = some (.code c155)) {f : Nat} {l : List Val} (hl : l.length ≤ 1000) {p : Val → Bool} (ih : ∀ x ∈ l, lcall E f [x.arg] [] = some (.d (.b (p x)), [])) :
    lcall E 141 [.d (.l 4 (valRows l)), .d (.f f [] [])] [] = some (.d (.b (l.any p)), []) := by
  obtain ⟨i, hc, hi⟩ := idx_ok h155 hl ih
  refine call_wx h141 ?_
  refine wx_seq (wx_region fun K hK => ?_)
  simp only [evW, evX, evM, evN, evC, far, ↓reduceIte, Nat.reduceEqDiff, Nat.reduceAdd, Nat.reduceLeDiff, Nat.reduceSub, Nat.reduceLT, reduceCtorEq, not_true_eq_false, not_false_eq_true, Int.reduceEq, Int.reduceLT, Int.reduceLE, Int.reduceNeg]
  refine hK _ _ ?_; clear hK K
  refine wx_seq (wx_region fun K hK => ?_)
  simp only [evW, evX, evM, evN, evC, far, ↓reduceIte, Nat.reduceEqDiff, Nat.reduceAdd, Nat.reduceLeDiff, Nat.reduceSub, Nat.reduceLT, reduceCtorEq, not_true_eq_false, not_false_eq_true, Int.reduceEq, Int.reduceLT, Int.reduceLE, Int.reduceNeg, hc]
  refine hK _ _ ?_; clear hK K
  refine wx_ret ⟨.inr rfl, ?_⟩
  simp only [evR, evX, evC, evN, ↓reduceIte, Nat.reduceEqDiff, Nat.reduceAdd, Nat.reduceLeDiff, Nat.reduceLT, Nat.reduceSub, reduceCtorEq, far, c141, hi]

/-! ### does a row rise? -/

def risLoop : CCode := match c151.body with
  | .seq _ (.seq (.seq _ (.block _ (.loop _ c))) _) => c
  | _ => .skip

theorem chain_step {p : Val → Val → Bool} {l : List Val} {i : Nat} (h : i + 1 < l.length) : chainB p (l.drop i) = (p l[i] l[i + 1] && chainB p (l.drop (i + 1))) := by
  rw [drop_cons (show i < l.length by omega), drop_cons h, chainB]

theorem ris_loop {f : Nat} {l : List Val} (hl : l.length ≤ 1000) {c : Val → Val → Int} (ih : ∀ x ∈ l, ∀ y ∈ l, lcall E f [x.arg, y.arg] [] = some (.d (.i .i64 (c x y)), [])) {Q : Ex → St → Prop} (hx : ∀ tm, chainB (fun a b => decide (c a b < 0)) l = true → Q (.exit 0) ⟨tm, []⟩) (hr : ∀ tm hp, chainB (fun a b => decide (c a b < 0)) l = false → look tm 4 = .d (.b false) → Q .ret ⟨tm, hp⟩) :
    ∀ (n i : Nat), i + n = l.length → (∀ j, j + 1 = i → chainB (fun a b => decide (c a b < 0)) l = chainB (fun a b => decide (c a b < 0)) (l.drop j)) → LX E risLoop ⟨[0, 1, 7, 8], [], [], [], [], true⟩ 0 ⟨[(0, .d (.l 4 (valRows l))), (1, .d (.f f [] [])), (7, .d (.i .i64 l.length)), (8, .d (.i .i64 i))], []⟩ Q := by
  intro n
  induction n with
  | zero =>
    intro i hi ho
    have hn : ¬ ((i : Int) < l.length) := by omega
    refine lx_step ?_
    refine wx_seq (wx_region fun K hK => ?_)
    simp only [evW, evX, evM, evN, evC, far, ↓reduceIte, Nat.reduceEqDiff, Nat.reduceAdd, Nat.reduceLeDiff, Nat.reduceSub, Nat.reduceLT, reduceCtorEq, not_true_eq_false, not_false_eq_true, Int.reduceEq, Int.reduceLT, Int.reduceLE, Int.reduceNeg, hn]
    refine hK _ _ ?_; clear hK K
    refine wx_seq (wx_cond false rfl (fun h => by cases h) (fun _ => wx_exit ?_))
    refine hx _ ?_
    cases i with
    | zero => rw [List.length_eq_zero_iff.1 (by omega : l.length = 0)]; rfl
    | succ j =>
      have hj : j < l.length := by omega
      rw [ho j rfl, drop_cons hj, List.drop_eq_nil_of_le (by omega)]; rfl
  | succ n ihn =>
    intro i hi ho
    have hy : (i : Int) < l.length := by omega
    have la : i < l.length := by omega
    have h0 : (0 : Int) ≤ i := by omega
    have w : IntKind.i64.wrap ((i : Int) + 1) = ((i + 1 : Nat) : Int) := by rw [i64_in (by omega) (by omega)]; omega
    refine lx_step ?_
    refine wx_seq (wx_region fun K hK => ?_)
    simp only [evW, evX, evM, evN, evC, far, ↓reduceIte, Nat.reduceEqDiff, Nat.reduceAdd, Nat.reduceLeDiff, Nat.reduceSub, Nat.reduceLT, reduceCtorEq, not_true_eq_false, not_false_eq_true, Int.reduceEq, Int.reduceLT, Int.reduceLE, Int.reduceNeg, hy]
    refine hK _ _ ?_; clear hK K
    refine wx_seq (wx_cond true rfl (fun _ => wx_skip ?_) (fun h => by cases h))
    refine wx_seq (wx_block ?_)
    refine wx_seq (wx_region fun K hK => ?_)
    simp only [evW, evX, evM, evN, evC, far, ↓reduceIte, Nat.reduceEqDiff, Nat.reduceAdd, Nat.reduceLeDiff, Nat.reduceSub, Nat.reduceLT, reduceCtorEq, not_true_eq_false, not_false_eq_true, Int.reduceEq, Int.reduceLT, Int.reduceLE, Int.reduceNeg]
    refine hK _ _ ?_; clear hK K
    cases i with
    | zero =>
      have hz : ¬ ((0 : Int) < ((0 : Nat) : Int)) := by omega
      refine wx_seq (wx_regionT fun K hK => ?_)
      simp only [evW, evX, evM, evN, evC, far, ↓reduceIte, Nat.reduceEqDiff, Nat.reduceAdd, Nat.reduceLeDiff, Nat.reduceSub, Nat.reduceLT, reduceCtorEq, not_true_eq_false, not_false_eq_true, Int.reduceEq, Int.reduceLT, Int.reduceLE, Int.reduceNeg, hz]
      refine hK _ _ (by rfl) ?_; clear hK K
      refine wx_cond false rfl (fun h => by cases h) (fun _ => wx_skip ?_)
      refine wx_region fun K hK => ?_
      simp only [evW, evX, evM, evN, evC, far, ↓reduceIte, Nat.reduceEqDiff, Nat.reduceAdd, Nat.reduceLeDiff, Nat.reduceSub, Nat.reduceLT, reduceCtorEq, not_true_eq_false, not_false_eq_true, Int.reduceEq, Int.reduceLT, Int.reduceLE, Int.reduceNeg, w]
      refine hK _ _ ?_; clear hK K
      refine ⟨_, ?_, ihn 1 (by omega) (fun j hj => by obtain rfl : j = 0 := (by omega); rfl)⟩
      simp only [evH, evX, evN, ↓reduceIte, Nat.reduceEqDiff, Nat.reduceAdd, Nat.reduceLeDiff, Nat.reduceLT, Nat.reduceSub, reduceCtorEq]
    | succ j =>
      have hz : (0 : Int) < ((j + 1 : Nat) : Int) := by omega
      have lj : j < l.length := by omega
      have w1 : IntKind.i64.wrap (((j + 1 : Nat) : Int) - 1) = (j : Int) := by rw [i64_in (by omega) (by omega)]; omega
      have hj0 : (0 : Int) ≤ j := by omega
      have ga : (valRows l)[j]? = some (Val.row l[j]) := by rw [valRows_get, List.getElem?_eq_getElem lj]; rfl
      have gb : (valRows l)[j + 1]? = some (Val.row l[j + 1]) := by rw [valRows_get, List.getElem?_eq_getElem la]; rfl
      have hcall := ih l[j] (List.getElem_mem lj) l[j + 1] (List.getElem_mem la)
      have hst := (ho j rfl).trans (chain_step la)
      generalize l[j] = x at *
      generalize l[j + 1] = y at *
      by_cases hxy : 0 ≤ c x y
      · refine wx_seq (wx_regionT fun K hK => ?_)
        simp only [evW, evX, evM, evN, evC, far, ↓reduceIte, Nat.reduceEqDiff, Nat.reduceAdd, Nat.reduceLeDiff, Nat.reduceSub, Nat.reduceLT, reduceCtorEq, not_true_eq_false, not_false_eq_true, Int.reduceEq, Int.reduceLT, Int.reduceLE, Int.reduceNeg, hz, w1, hj0, h0, Int.toNat_natCast, ga, gb, row_eq, hcall, eq_true hxy]
        refine hK _ _ (by rfl) ?_; clear hK K
        refine wx_cond true rfl (fun _ => ?_) (fun h => by cases h)
        refine wx_seq (wx_region fun K hK => ?_)
        simp only [evW, evX, evM, evN, evC, far, ↓reduceIte, Nat.reduceEqDiff, Nat.reduceAdd, Nat.reduceLeDiff, Nat.reduceSub, Nat.reduceLT, reduceCtorEq, not_true_eq_false, not_false_eq_true, Int.reduceEq, Int.reduceLT, Int.reduceLE, Int.reduceNeg]
        refine hK _ _ ?_; clear hK K
        refine wx_ret (hr _ _ ?_ rfl)
        rw [hst, show decide (c x y < 0) = false from decide_eq_false (by omega)]; rfl
      · refine wx_seq (wx_regionT fun K hK => ?_)
        simp only [evW, evX, evM, evN, evC, far, ↓reduceIte, Nat.reduceEqDiff, Nat.reduceAdd, Nat.reduceLeDiff, Nat.reduceSub, Nat.reduceLT, reduceCtorEq, not_true_eq_false, not_false_eq_true, Int.reduceEq, Int.reduceLT, Int.reduceLE, Int.reduceNeg, hz, w1, hj0, h0, Int.toNat_natCast, ga, gb, row_eq, hcall, hxy]
        refine hK _ _ (by rfl) ?_; clear hK K
        refine wx_cond false rfl (fun h => by cases h) (fun _ => wx_skip ?_)
        refine wx_region fun K hK => ?_
        simp only [evW, evX, evM, evN, evC, far, ↓reduceIte, Nat.reduceEqDiff, Nat.reduceAdd, Nat.reduceLeDiff, Nat.reduceSub, Nat.reduceLT, reduceCtorEq, not_true_eq_false, not_false_eq_true, Int.reduceEq, Int.reduceLT, Int.reduceLE, Int.reduceNeg, w]
        refine hK _ _ ?_; clear hK K
        refine ⟨_, ?_, ihn (j + 1 + 1) (by omega) (fun q hq => ?_)⟩
        · simp only [evH, evX, evN, ↓reduceIte, Nat.reduceEqDiff, Nat.reduceAdd, Nat.reduceLeDiff, Nat.reduceLT, Nat.reduceSub, reduceCtorEq]
        · obtain rfl : q = j + 1 := by omega
          rw [hst, show decide (c x y < 0) = true from decide_eq_true (by omega)]; rfl

theorem rises_ok (h151 : E 151 = some (.code c151)) {f : Nat} {l : List Val} (hl : l.length ≤ 1000) {c : Val → Val → Int} (ih : ∀ x ∈ l, ∀ y ∈ l, lcall E f [x.arg, y.arg] [] = some (.d (.i .i64 (c x y)), [])) :
    lcall E 151 [.d (.l 4 (valRows l)), .d (.f f [] [])] [] = some (.d (.b (chainB (fun a b => decide (c a b < 0)) l)), []) := by
  refine call_wx h151 ?_
  refine wx_seq (wx_region fun K hK => ?_)
  simp only [evW, evX, evM, evN, evC, far, ↓reduceIte, Nat.reduceEqDiff, Nat.reduceAdd, Nat.reduceLeDiff, Nat.reduceSub, Nat.reduceLT, reduceCtorEq, not_true_eq_false, not_false_eq_true, Int.reduceEq, Int.reduceLT, Int.reduceLE, Int.reduceNeg]
  refine hK _ _ ?_; clear hK K
  refine wx_seq (wx_seq ?_)
  refine wx_region fun K hK => ?_
  simp only [evW, evX, evM, evN, evC, far, ↓reduceIte, Nat.reduceEqDiff, Nat.reduceAdd, Nat.reduceLeDiff, Nat.reduceSub, Nat.reduceLT, reduceCtorEq, not_true_eq_false, not_false_eq_true, Int.reduceEq, Int.reduceLT, Int.reduceLE, Int.reduceNeg, valRows_length]
  refine hK _ _ ?_; clear hK K
  refine wx_block (wx_loop ?_)
  simp only [evH, evX, evN, ↓reduceIte, Nat.reduceEqDiff, Nat.reduceAdd, Nat.reduceLeDiff, Nat.reduceLT, Nat.reduceSub, reduceCtorEq]
  refine ris_loop hl ih (fun tm ha => ?_) (fun tm hp ha t4 => ?_) l.length 0 (by omega) (fun j hj => by omega)
  · refine wx_seq (wx_region fun K hK => ?_)
    simp only [evW, evX, evM, evN, evC, far, ↓reduceIte, Nat.reduceEqDiff, Nat.reduceAdd, Nat.reduceLeDiff, Nat.reduceSub, Nat.reduceLT, reduceCtorEq, not_true_eq_false, not_false_eq_true, Int.reduceEq, Int.reduceLT, Int.reduceLE, Int.reduceNeg]
    refine hK _ _ ?_; clear hK K
    refine wx_ret ⟨.inr rfl, ?_⟩
    simp only [evR, evX, evC, evN, ↓reduceIte, Nat.reduceEqDiff, Nat.reduceAdd, Nat.reduceLeDiff, Nat.reduceLT, Nat.reduceSub, reduceCtorEq, far, c151, ha]
  · refine ⟨.inr rfl, ?_⟩
    simp only [evR, evX, evC, evN, ↓reduceIte, Nat.reduceEqDiff, Nat.reduceAdd, Nat.reduceLeDiff, Nat.reduceLT, Nat.reduceSub, reduceCtorEq, far, c151, t4, ha]


theorem c3_neg (x y : List UInt8) : decide (c3 (bytesLess x y) (!(bytesLess x y || x == y)) < 0) = bytesLess x y := by
  unfold c3
  cases h : bytesLess x y with
  | true => simp
  | false => simp; split <;> simp

theorem row_ok (h140 : E 140 = some (.code c140)) (h141 : ∀ (f : Nat) (l : List Val) (p : Val → Bool), l.length ≤ 1000 → (∀ x ∈ l, lcall E f [x.arg] [] = some (.d (.b (p x)), [])) → lcall E 141 [.d (.l 4 (valRows l)), .d (.f f [] [])] [] = some (.d (.b (l.any p)), []))
    (h151 : ∀ (f : Nat) (l : List Val) (c : Val → Val → Int), l.length ≤ 1000 → (∀ x ∈ l, ∀ y ∈ l, lcall E f [x.arg, y.arg] [] = some (.d (.i .i64 (c x y)), [])) → lcall E 151 [.d (.l 4 (valRows l)), .d (.f f [] [])] [] = some (.d (.b (chainB (fun a b => decide (c a b < 0)) l)), []))
    (h114 : ∀ (a b : Val), Small a → Small b → lcall E 114 [a.arg, b.arg] [] = some (.d (.i .i64 (cmpV a b)), [])) (h152 : ∀ v : Val, lcall E 152 [v.arg] [] = some (.d (.b (!pairV v)), []))
    (h154 : ∀ a b : Val, lcall E 154 [a.arg, b.arg] [] = some (.d (.i .i64 (c3 (bytesLess (keyV a) (keyV b)) (!(bytesLess (keyV a) (keyV b) || keyV a == keyV b)))), [])) (v : Val) (hv : Small v) :
    lcall E 140 [v.arg] [] = some (.d (.b (rowOk v.kind v.l)), []) := by
  have r1 := h151 114 v.l cmpV hv.len (fun x hx y hy => h114 x y (hv.sub x hx) (hv.sub y hy))
  have r2 := h151 154 v.l _ hv.len (fun x hx y hy => h154 x y)
  have a1 := h141 152 v.l _ hv.len (fun x hx => h152 x)
  simp only [c3_neg] at r2
  have hany : (v.l.any fun x => !pairV x) = !v.l.all pairV := by
    generalize v.l = l
    induction l with
    | nil => rfl
    | cons x r ih => simp [ih]
  rw [hany] at a1
  refine call_wx h140 ?_
  refine wx_seq (wx_region fun K hK => ?_)
  simp only [evW, evX, evM, evN, evC, far, ↓reduceIte, Nat.reduceEqDiff, Nat.reduceAdd, Nat.reduceLeDiff, Nat.reduceSub, Nat.reduceLT, reduceCtorEq, not_true_eq_false, not_false_eq_true, Int.reduceEq, Int.reduceLT, Int.reduceLE, Int.reduceNeg]
  refine hK _ _ ?_; clear hK K
  refine wx_seq (wx_seq ?_)
  refine wx_region fun K hK => ?_
  simp only [evW, evX, evM, evN, evC, far, ↓reduceIte, Nat.reduceEqDiff, Nat.reduceAdd, Nat.reduceLeDiff, Nat.reduceSub, Nat.reduceLT, reduceCtorEq, not_true_eq_false, not_false_eq_true, Int.reduceEq, Int.reduceLT, Int.reduceLE, Int.reduceNeg]
  refine hK _ _ ?_; clear hK K
  refine wx_block ?_
  by_cases h4 : v.kind = 4
  · refine wx_seq (wx_region fun K hK => ?_)
    simp only [evW, evX, evM, evN, evC, far, ↓reduceIte, Nat.reduceEqDiff, Nat.reduceAdd, Nat.reduceLeDiff, Nat.reduceSub, Nat.reduceLT, reduceCtorEq, not_true_eq_false, not_false_eq_true, Int.reduceEq, Int.reduceLT, Int.reduceLE, Int.reduceNeg, eq_true h4]
    refine hK _ _ ?_; clear hK K
    refine wx_cond true rfl (fun _ => ?_) (fun h => by cases h)
    refine wx_seq (wx_region fun K hK => ?_)
    simp only [evW, evX, evM, evN, evC, far, ↓reduceIte, Nat.reduceEqDiff, Nat.reduceAdd, Nat.reduceLeDiff, Nat.reduceSub, Nat.reduceLT, reduceCtorEq, not_true_eq_false, not_false_eq_true, Int.reduceEq, Int.reduceLT, Int.reduceLE, Int.reduceNeg]
    refine hK _ _ ?_; clear hK K
    refine wx_ret ⟨.inr rfl, ?_⟩
    simp only [evR, evX, evC, evN, ↓reduceIte, Nat.reduceEqDiff, Nat.reduceAdd, Nat.reduceLeDiff, Nat.reduceLT, Nat.reduceSub, reduceCtorEq, far, c140, rowOk, eq_true h4]
  · refine wx_seq (wx_region fun K hK => ?_)
    simp only [evW, evX, evM, evN, evC, far, ↓reduceIte, Nat.reduceEqDiff, Nat.reduceAdd, Nat.reduceLeDiff, Nat.reduceSub, Nat.reduceLT, reduceCtorEq, not_true_eq_false, not_false_eq_true, Int.reduceEq, Int.reduceLT, Int.reduceLE, Int.reduceNeg, h4]
    refine hK _ _ ?_; clear hK K
    refine wx_cond false rfl (fun h => by cases h) (fun _ => ?_)
    by_cases h5 : v.kind = 5
    · refine wx_seq (wx_region fun K hK => ?_)
      simp only [evW, evX, evM, evN, evC, far, ↓reduceIte, Nat.reduceEqDiff, Nat.reduceAdd, Nat.reduceLeDiff, Nat.reduceSub, Nat.reduceLT, reduceCtorEq, not_true_eq_false, not_false_eq_true, Int.reduceEq, Int.reduceLT, Int.reduceLE, Int.reduceNeg, eq_true h5]
      refine hK _ _ ?_; clear hK K
      refine wx_cond true rfl (fun _ => ?_) (fun h => by cases h)
      refine wx_seq (wx_region fun K hK => ?_)
      simp only [evW, evX, evM, evN, evC, far, ↓reduceIte, Nat.reduceEqDiff, Nat.reduceAdd, Nat.reduceLeDiff, Nat.reduceSub, Nat.reduceLT, reduceCtorEq, not_true_eq_false, not_false_eq_true, Int.reduceEq, Int.reduceLT, Int.reduceLE, Int.reduceNeg, r1]
      refine hK _ _ ?_; clear hK K
      refine wx_ret ⟨.inr rfl, ?_⟩
      simp only [evR, evX, evC, evN, ↓reduceIte, Nat.reduceEqDiff, Nat.reduceAdd, Nat.reduceLeDiff, Nat.reduceLT, Nat.reduceSub, reduceCtorEq, far, c140, rowOk, h4, eq_true h5]
      rfl
    · refine wx_seq (wx_region fun K hK => ?_)
      simp only [evW, evX, evM, evN, evC, far, ↓reduceIte, Nat.reduceEqDiff, Nat.reduceAdd, Nat.reduceLeDiff, Nat.reduceSub, Nat.reduceLT, reduceCtorEq, not_true_eq_false, not_false_eq_true, Int.reduceEq, Int.reduceLT, Int.reduceLE, Int.reduceNeg, h5]
      refine hK _ _ ?_; clear hK K
      refine wx_cond false rfl (fun h => by cases h) (fun _ => ?_)
      by_cases h6 : v.kind = 6
      · refine wx_seq (wx_region fun K hK => ?_)
        simp only [evW, evX, evM, evN, evC, far, ↓reduceIte, Nat.reduceEqDiff, Nat.reduceAdd, Nat.reduceLeDiff, Nat.reduceSub, Nat.reduceLT, reduceCtorEq, not_true_eq_false, not_false_eq_true, Int.reduceEq, Int.reduceLT, Int.reduceLE, Int.reduceNeg, eq_true h6]
        refine hK _ _ ?_; clear hK K
        refine wx_cond true rfl (fun _ => ?_) (fun h => by cases h)
        cases hp : v.l.all pairV with
        | true =>
          refine wx_seq (wx_region fun K hK => ?_)
          simp only [evW, evX, evM, evN, evC, far, ↓reduceIte, Nat.reduceEqDiff, Nat.reduceAdd, Nat.reduceLeDiff, Nat.reduceSub, Nat.reduceLT, reduceCtorEq, not_true_eq_false, not_false_eq_true, Int.reduceEq, Int.reduceLT, Int.reduceLE, Int.reduceNeg, a1, hp, r2]
          refine hK _ _ ?_; clear hK K
          refine wx_ret ⟨.inr rfl, ?_⟩
          simp only [evR, evX, evC, evN, ↓reduceIte, Nat.reduceEqDiff, Nat.reduceAdd, Nat.reduceLeDiff, Nat.reduceLT, Nat.reduceSub, reduceCtorEq, far, c140, rowOk, h4, h5, eq_true h6, hp]
          rfl
        | false =>
          refine wx_seq (wx_region fun K hK => ?_)
          simp only [evW, evX, evM, evN, evC, far, ↓reduceIte, Nat.reduceEqDiff, Nat.reduceAdd, Nat.reduceLeDiff, Nat.reduceSub, Nat.reduceLT, reduceCtorEq, not_true_eq_false, not_false_eq_true, Int.reduceEq, Int.reduceLT, Int.reduceLE, Int.reduceNeg, a1, hp]
          refine hK _ _ ?_; clear hK K
          refine wx_ret ⟨.inr rfl, ?_⟩
          simp only [evR, evX, evC, evN, ↓reduceIte, Nat.reduceEqDiff, Nat.reduceAdd, Nat.reduceLeDiff, Nat.reduceLT, Nat.reduceSub, reduceCtorEq, far, c140, rowOk, h4, h5, eq_true h6, hp]
      · refine wx_seq (wx_region fun K hK => ?_)
        simp only [evW, evX, evM, evN, evC, far, ↓reduceIte, Nat.reduceEqDiff, Nat.reduceAdd, Nat.reduceLeDiff, Nat.reduceSub, Nat.reduceLT, reduceCtorEq, not_true_eq_false, not_false_eq_true, Int.reduceEq, Int.reduceLT, Int.reduceLE, Int.reduceNeg, h6]
        refine hK _ _ ?_; clear hK K
        refine wx_cond false rfl (fun h => by cases h) (fun _ => wx_skip ?_)
        refine wx_seq (wx_region fun K hK => ?_)
        simp only [evW, evX, evM, evN, evC, far, ↓reduceIte, Nat.reduceEqDiff, Nat.reduceAdd, Nat.reduceLeDiff, Nat.reduceSub, Nat.reduceLT, reduceCtorEq, not_true_eq_false, not_false_eq_true, Int.reduceEq, Int.reduceLT, Int.reduceLE, Int.reduceNeg, valRows_length]
        refine hK _ _ ?_; clear hK K
        refine wx_ret ⟨.inr rfl, ?_⟩
        simp only [evR, evX, evC, evN, ↓reduceIte, Nat.reduceEqDiff, Nat.reduceAdd, Nat.reduceLeDiff, Nat.reduceLT, Nat.reduceSub, reduceCtorEq, far, c140, rowOk, h4, h5, h6]
        congr 4
        cases v.l <;> simp
        omega
end Ab

/-
  Which values may be: the program's may, May.
-/
namespace Ab
open Go
set_option linter.unusedVariables false
set_option linter.unusedSimpArgs false
set_option maxRecDepth 100000
variable {E : Nat → Option Fn}

def badX (x : Val) : Bool := decide (x.kind = 7) || !mayV x

theorem mayL_any (l : List Val) : mayL l = !l.any badX := by
  rw [mayL_all]
  induction l with
  | nil => rfl
  | cons x r ih => simp only [List.all_cons, List.any_cons, ih, badX, Bool.not_or, Bool.not_not]

theorem badX_ok (h142 : E 142 = some (.code c142)) (x : Val) (hx : lcall E 125 [x.arg] [] = some (.d (.b (mayV x)), [])) : lcall E 142 [x.arg] [] = some (.d (.b (badX x)), []) := by
  refine call_wx h142 ?_
  refine wx_seq (wx_region fun K hK => ?_)
  simp only [evW, evX, evM, evN, evC, far, ↓reduceIte, Nat.reduceEqDiff, Nat.reduceAdd, Nat.reduceLeDiff, Nat.reduceSub, Nat.reduceLT, reduceCtorEq, not_true_eq_false, not_false_eq_true, Int.reduceEq, Int.reduceLT, Int.reduceLE, Int.reduceNeg]
  refine hK _ _ ?_; clear hK K
  by_cases h7 : x.kind = 7
  · refine wx_seq (wx_region fun K hK => ?_)
    simp only [evW, evX, evM, evN, evC, far, ↓reduceIte, Nat.reduceEqDiff, Nat.reduceAdd, Nat.reduceLeDiff, Nat.reduceSub, Nat.reduceLT, reduceCtorEq, not_true_eq_false, not_false_eq_true, Int.reduceEq, Int.reduceLT, Int.reduceLE, Int.reduceNeg, eq_true h7]
    refine hK _ _ ?_; clear hK K
    refine wx_ret ⟨.inr rfl, ?_⟩
    simp only [evR, evX, evC, evN, ↓reduceIte, Nat.reduceEqDiff, Nat.reduceAdd, Nat.reduceLeDiff, Nat.reduceLT, Nat.reduceSub, reduceCtorEq, far, c142, badX, eq_true h7]
  · refine wx_seq (wx_region fun K hK => ?_)
    simp only [evW, evX, evM, evN, evC, far, ↓reduceIte, Nat.reduceEqDiff, Nat.reduceAdd, Nat.reduceLeDiff, Nat.reduceSub, Nat.reduceLT, reduceCtorEq, not_true_eq_false, not_false_eq_true, Int.reduceEq, Int.reduceLT, Int.reduceLE, Int.reduceNeg, h7, hx]
    refine hK _ _ ?_; clear hK K
    refine wx_ret ⟨.inr rfl, ?_⟩
    simp only [evR, evX, evC, evN, ↓reduceIte, Nat.reduceEqDiff, Nat.reduceAdd, Nat.reduceLeDiff, Nat.reduceLT, Nat.reduceSub, reduceCtorEq, far, c142, badX, h7]

theorem mayIn_ok (h125 : E 125 = some (.code c125)) (h142 : E 142 = some (.code c142)) (h141 : ∀ (f : Nat) (l : List Val) (p : Val → Bool), l.length ≤ 1000 → (∀ x ∈ l, lcall E f [x.arg] [] = some (.d (.b (p x)), [])) → lcall E 141 [.d (.l 4 (valRows l)), .d (.f f [] [])] [] = some (.d (.b (l.any p)), []))
    (hnum : ∀ v : Val, lcall E 139 [v.arg] [] = some (.d (.b (numOk v.kind v.i)), [])) (hrow : ∀ v : Val, Small v → lcall E 140 [v.arg] [] = some (.d (.b (rowOk v.kind v.l)), [])) :
    ∀ (v : Val), Small v → lcall E 125 [v.arg] [] = some (.d (.b (mayV v)), []) := by
  intro v hs
  induction hs with
  | @mk v hl hsub ih =>
  have hn := hnum v
  have hr := hrow v (.mk hl hsub)
  have hc := h141 142 v.l badX hl (fun x hx => badX_ok h142 x (ih x hx))
  have out : ∀ (Q : Ex → St → Prop) tm, mayV v = false → (∀ s, result 0 s c125.rets = some (.d (.b (mayV v)), []) → Q .ret s) → WX E (match c125.body with | .seq _ (.seq (.seq _ (.cond _ t _)) _) => t | _ => .skip) ⟨tm, [vbox v]⟩ Q := fun Q tm hm hQ => by
    refine wx_seq (wx_region fun K hK => ?_)
    simp only [evW, evX, evM, evN, evC, far, ↓reduceIte, Nat.reduceEqDiff, Nat.reduceAdd, Nat.reduceLeDiff, Nat.reduceSub, Nat.reduceLT, reduceCtorEq, not_true_eq_false, not_false_eq_true, Int.reduceEq, Int.reduceLT, Int.reduceLE, Int.reduceNeg]
    refine hK _ _ ?_; clear hK K
    refine wx_ret (hQ _ ?_)
    simp only [evR, evX, evC, evN, ↓reduceIte, Nat.reduceEqDiff, Nat.reduceAdd, Nat.reduceLeDiff, Nat.reduceLT, Nat.reduceSub, reduceCtorEq, far, c125, hm]
  refine call_wx h125 ?_
  refine wx_seq (wx_region fun K hK => ?_)
  simp only [evW, evX, evM, evN, evC, far, ↓reduceIte, Nat.reduceEqDiff, Nat.reduceAdd, Nat.reduceLeDiff, Nat.reduceSub, Nat.reduceLT, reduceCtorEq, not_true_eq_false, not_false_eq_true, Int.reduceEq, Int.reduceLT, Int.reduceLE, Int.reduceNeg]
  refine hK _ _ ?_; clear hK K
  refine wx_seq (wx_seq ?_)
  by_cases h1 : v.kind < 1
  · refine wx_region fun K hK => ?_
    simp only [evW, evX, evM, evN, evC, far, ↓reduceIte, Nat.reduceEqDiff, Nat.reduceAdd, Nat.reduceLeDiff, Nat.reduceSub, Nat.reduceLT, reduceCtorEq, not_true_eq_false, not_false_eq_true, Int.reduceEq, Int.reduceLT, Int.reduceLE, Int.reduceNeg, h1]
    refine hK _ _ ?_; clear hK K
    refine wx_cond true rfl (fun _ => ?_) (fun h => by cases h)
    exact out _ _ (by rw [mayV_eq]; simp; omega) (fun s h => ⟨.inr rfl, h⟩)
  · by_cases h7 : 7 < v.kind
    · refine wx_region fun K hK => ?_
      simp only [evW, evX, evM, evN, evC, far, ↓reduceIte, Nat.reduceEqDiff, Nat.reduceAdd, Nat.reduceLeDiff, Nat.reduceSub, Nat.reduceLT, reduceCtorEq, not_true_eq_false, not_false_eq_true, Int.reduceEq, Int.reduceLT, Int.reduceLE, Int.reduceNeg, h1, h7]
      refine hK _ _ ?_; clear hK K
      refine wx_cond true rfl (fun _ => ?_) (fun h => by cases h)
      exact out _ _ (by rw [mayV_eq]; simp; omega) (fun s h => ⟨.inr rfl, h⟩)
    · have hin : decide (1 ≤ v.kind ∧ v.kind ≤ 7) = true := decide_eq_true (by omega)
      cases hno : numOk v.kind v.i with
      | false =>
        refine wx_region fun K hK => ?_
        simp only [evW, evX, evM, evN, evC, far, ↓reduceIte, Nat.reduceEqDiff, Nat.reduceAdd, Nat.reduceLeDiff, Nat.reduceSub, Nat.reduceLT, reduceCtorEq, not_true_eq_false, not_false_eq_true, Int.reduceEq, Int.reduceLT, Int.reduceLE, Int.reduceNeg, h1, h7, hn, hno]
        refine hK _ _ ?_; clear hK K
        refine wx_cond true rfl (fun _ => ?_) (fun h => by cases h)
        exact out _ _ (by rw [mayV_eq]; simp [hno]) (fun s h => ⟨.inr rfl, h⟩)
      | true =>
        have tail : ∀ tm, (decide (v.kind = 3) || v.s.isEmpty) = true → rowOk v.kind v.l = true → look tm 1 = .ptr 0 0 → WX E (match c125.body with | .seq _ (.seq _ t) => t | _ => .skip) ⟨tm, [vbox v]⟩ (fun ex s => (ex = .normal ∨ ex = .ret) ∧ result 0 s c125.rets = some (.d (.b (mayV v)), [])) := fun tm h3 hro t1 => by
          refine wx_seq (wx_region fun K hK => ?_)
          simp only [evW, evX, evM, evN, evC, far, ↓reduceIte, Nat.reduceEqDiff, Nat.reduceAdd, Nat.reduceLeDiff, Nat.reduceSub, Nat.reduceLT, reduceCtorEq, not_true_eq_false, not_false_eq_true, Int.reduceEq, Int.reduceLT, Int.reduceLE, Int.reduceNeg, t1, hc]
          refine hK _ _ ?_; clear hK K
          refine wx_ret ⟨.inr rfl, ?_⟩
          simp only [evR, evX, evC, evN, ↓reduceIte, Nat.reduceEqDiff, Nat.reduceAdd, Nat.reduceLeDiff, Nat.reduceLT, Nat.reduceSub, reduceCtorEq, far, c125]
          rw [mayV_eq, hin, hno, h3, hro, mayL_any]; simp
        by_cases h3 : v.kind = 3
        · cases hro : rowOk v.kind v.l with
          | false =>
            refine wx_region fun K hK => ?_
            simp only [evW, evX, evM, evN, evC, far, ↓reduceIte, Nat.reduceEqDiff, Nat.reduceAdd, Nat.reduceLeDiff, Nat.reduceSub, Nat.reduceLT, reduceCtorEq, not_true_eq_false, not_false_eq_true, Int.reduceEq, Int.reduceLT, Int.reduceLE, Int.reduceNeg, h1, h7, hn, hno, eq_true h3, hr, hro]
            refine hK _ _ ?_; clear hK K
            refine wx_cond true rfl (fun _ => ?_) (fun h => by cases h)
            exact out _ _ (by rw [mayV_eq]; simp [hro]) (fun s h => ⟨.inr rfl, h⟩)
          | true =>
            refine wx_region fun K hK => ?_
            simp only [evW, evX, evM, evN, evC, far, ↓reduceIte, Nat.reduceEqDiff, Nat.reduceAdd, Nat.reduceLeDiff, Nat.reduceSub, Nat.reduceLT, reduceCtorEq, not_true_eq_false, not_false_eq_true, Int.reduceEq, Int.reduceLT, Int.reduceLE, Int.reduceNeg, h1, h7, hn, hno, eq_true h3, hr, hro]
            refine hK _ _ ?_; clear hK K
            refine wx_cond false rfl (fun h => by cases h) (fun _ => wx_skip ?_)
            exact tail _ (by simp [h3]) hro rfl
        · by_cases hs : v.s = []
          · cases hro : rowOk v.kind v.l with
            | false =>
              refine wx_region fun K hK => ?_
              simp only [evW, evX, evM, evN, evC, far, ↓reduceIte, Nat.reduceEqDiff, Nat.reduceAdd, Nat.reduceLeDiff, Nat.reduceSub, Nat.reduceLT, reduceCtorEq, not_true_eq_false, not_false_eq_true, Int.reduceEq, Int.reduceLT, Int.reduceLE, Int.reduceNeg, h1, h7, hn, hno, h3, eq_true hs, hr, hro]
              refine hK _ _ ?_; clear hK K
              refine wx_cond true rfl (fun _ => ?_) (fun h => by cases h)
              exact out _ _ (by rw [mayV_eq]; simp [hro]) (fun s h => ⟨.inr rfl, h⟩)
            | true =>
              refine wx_region fun K hK => ?_
              simp only [evW, evX, evM, evN, evC, far, ↓reduceIte, Nat.reduceEqDiff, Nat.reduceAdd, Nat.reduceLeDiff, Nat.reduceSub, Nat.reduceLT, reduceCtorEq, not_true_eq_false, not_false_eq_true, Int.reduceEq, Int.reduceLT, Int.reduceLE, Int.reduceNeg, h1, h7, hn, hno, h3, eq_true hs, hr, hro]
              refine hK _ _ ?_; clear hK K
              refine wx_cond false rfl (fun h => by cases h) (fun _ => wx_skip ?_)
              exact tail _ (by simp [hs]) hro rfl
          · refine wx_region fun K hK => ?_
            simp only [evW, evX, evM, evN, evC, far, ↓reduceIte, Nat.reduceEqDiff, Nat.reduceAdd, Nat.reduceLeDiff, Nat.reduceSub, Nat.reduceLT, reduceCtorEq, not_true_eq_false, not_false_eq_true, Int.reduceEq, Int.reduceLT, Int.reduceLE, Int.reduceNeg, h1, h7, hn, hno, h3, hs]
            refine hK _ _ ?_; clear hK K
            refine wx_cond true rfl (fun _ => ?_) (fun h => by cases h)
            exact out _ _ (by rw [mayV_eq]; have hse : v.s.isEmpty = false := (by simpa using hs); simp [h3, hse]) (fun s h => ⟨.inr rfl, h⟩)

theorem may_ok (h111 : E 111 = some (.code c111)) (hsize : ∀ v, Small v → lcall E 112 [v.arg] [] = some (.d (.i .i64 (sizeV v)), [])) (hmay : ∀ v, Small v → lcall E 125 [v.arg] [] = some (.d (.b (mayV v)), [])) (v : Val) (hv : Small v) :
    lcall E 111 [v.arg] [] = some (.d (.b (decide (sizeV v ≤ 60) && mayV v)), []) := by
  have h1 := hsize v hv
  have h2 := hmay v hv
  refine call_wx h111 ?_
  refine wx_seq (wx_region fun K hK => ?_)
  simp only [evW, evX, evM, evN, evC, far, ↓reduceIte, Nat.reduceEqDiff, Nat.reduceAdd, Nat.reduceLeDiff, Nat.reduceSub, Nat.reduceLT, reduceCtorEq, not_true_eq_false, not_false_eq_true, Int.reduceEq, Int.reduceLT, Int.reduceLE, Int.reduceNeg]
  refine hK _ _ ?_; clear hK K
  by_cases hs : sizeV v ≤ 60
  · refine wx_seq (wx_region fun K hK => ?_)
    simp only [evW, evX, evM, evN, evC, far, ↓reduceIte, Nat.reduceEqDiff, Nat.reduceAdd, Nat.reduceLeDiff, Nat.reduceSub, Nat.reduceLT, reduceCtorEq, not_true_eq_false, not_false_eq_true, Int.reduceEq, Int.reduceLT, Int.reduceLE, Int.reduceNeg, h1, eq_true hs, h2]
    refine hK _ _ ?_; clear hK K
    refine wx_ret ⟨.inr rfl, ?_⟩
    simp only [evR, evX, evC, evN, ↓reduceIte, Nat.reduceEqDiff, Nat.reduceAdd, Nat.reduceLeDiff, Nat.reduceLT, Nat.reduceSub, reduceCtorEq, far, c111]
    simp [hs]
  · refine wx_seq (wx_region fun K hK => ?_)
    simp only [evW, evX, evM, evN, evC, far, ↓reduceIte, Nat.reduceEqDiff, Nat.reduceAdd, Nat.reduceLeDiff, Nat.reduceSub, Nat.reduceLT, reduceCtorEq, not_true_eq_false, not_false_eq_true, Int.reduceEq, Int.reduceLT, Int.reduceLE, Int.reduceNeg, h1, hs]
    refine hK _ _ ?_; clear hK K
    refine wx_ret ⟨.inr rfl, ?_⟩
    simp only [evR, evX, evC, evN, ↓reduceIte, Nat.reduceEqDiff, Nat.reduceAdd, Nat.reduceLeDiff, Nat.reduceLT, Nat.reduceSub, reduceCtorEq, far, c111]
    simp [hs]
end Ab

/-
  Which values may be: the document's May.
-/
namespace Ab
open Go
set_option linter.unusedVariables false
set_option linter.unusedSimpArgs false
set_option maxRecDepth 100000
variable {E : Nat → Option Fn}

/-- no size is beyond what an int bears. -/
def Fit (v : Val) : Prop := szN v ≤ 1000000000000

def mayR (v : Val) : Bool := decide (sizeV v ≤ 60) && mayV v
def badR (x : Val) : Bool := !mayR x || decide (x.kind = 7)

theorem fit_sub {v : Val} (h : Fit v) : ∀ x ∈ v.l, Fit x := fun x hx => by have := szN_sub hx; unfold Fit at *; omega

theorem badR_any {v : Val} (hf : Fit v) (hs : sizeV v ≤ 60) : v.l.any badR = v.l.any badX := by
  have : ∀ x ∈ v.l, badR x = badX x := fun x hx => by
    have h1 : sizeV x ≤ 60 := by
      have := szN_sub hx
      rw [sizeV_fit v hf] at hs
      rw [sizeV_fit x (fit_sub hf x hx)]
      omega
    simp only [badR, badX, mayR, h1, decide_true, Bool.true_and]
    exact Bool.or_comm _ _
  generalize v.l = l at this
  induction l with
  | nil => rfl
  | cons x r ih => simp only [List.any_cons, this x (by simp), ih fun y hy => this y (by simp [hy])]

def mrLoop1 : CCode := match c110.body with
  | .seq _ (.seq _ (.seq (.seq _ (.block _ (.loop _ c))) _)) => c
  | _ => .skip

theorem mr_loop1 {v : Val} (hl : v.l.length ≤ 1000) (ih : ∀ x ∈ v.l, lcall E 110 [x.arg] [] = some (.d (.b (mayR x)), [])) {Q : Ex → St → Prop} (hx : ∀ tm, look tm 1 = .ptr 0 0 → v.l.any badR = false → Q (.exit 0) ⟨tm, [vbox v]⟩) (hr : ∀ tm hp, v.l.any badR = true → look tm 2 = .d (.b false) → Q .ret ⟨tm, hp⟩) :
    ∀ (n i : Nat), i + n = v.l.length → v.l.any badR = (v.l.drop i).any badR → LX E mrLoop1 ⟨[1, 3], [], [], [], [], true⟩ 1 ⟨[(1, .ptr 0 0), (3, .d (.i .i64 i))], [vbox v]⟩ Q := by
  intro n
  induction n with
  | zero =>
    intro i hi ho
    have hn : ¬ ((i : Int) < v.l.length) := by omega
    rw [List.drop_eq_nil_of_le (by omega), List.any_nil] at ho
    refine lx_step (wx_seq (wx_seq ?_))
    refine wx_region fun K hK => ?_
    simp only [evW, evX, evM, evN, evC, far, ↓reduceIte, Nat.reduceEqDiff, Nat.reduceAdd, Nat.reduceLeDiff, Nat.reduceSub, Nat.reduceLT, reduceCtorEq, not_true_eq_false, not_false_eq_true, Int.reduceEq, Int.reduceLT, Int.reduceLE, Int.reduceNeg, valRows_length, hn]
    refine hK _ _ ?_; clear hK K
    refine wx_cond false rfl (fun h => by cases h) (fun _ => wx_exit ?_)
    exact hx _ rfl ho
  | succ n ihn =>
    intro i hi ho
    have hy : (i : Int) < v.l.length := by omega
    have la : i < v.l.length := by omega
    have h0 : (0 : Int) ≤ i := by omega
    have ga : (valRows v.l)[i]? = some (Val.row v.l[i]) := by rw [valRows_get, List.getElem?_eq_getElem la]; rfl
    have hcall := ih v.l[i] (List.getElem_mem la)
    rw [drop_cons la, List.any_cons] at ho
    generalize v.l[i] = x at *
    have w : IntKind.i64.wrap ((i : Int) + 1) = ((i + 1 : Nat) : Int) := by rw [i64_in (by omega) (by omega)]; omega
    refine lx_step (wx_seq (wx_seq ?_))
    refine wx_region fun K hK => ?_
    simp only [evW, evX, evM, evN, evC, far, ↓reduceIte, Nat.reduceEqDiff, Nat.reduceAdd, Nat.reduceLeDiff, Nat.reduceSub, Nat.reduceLT, reduceCtorEq, not_true_eq_false, not_false_eq_true, Int.reduceEq, Int.reduceLT, Int.reduceLE, Int.reduceNeg, valRows_length, hy]
    refine hK _ _ ?_; clear hK K
    refine wx_cond true rfl (fun _ => wx_skip ?_) (fun h => by cases h)
    refine wx_seq (wx_block ?_)
    cases hm : mayR x with
    | false =>
      refine wx_seq (wx_region fun K hK => ?_)
      simp only [evW, evX, evM, evN, evC, far, ↓reduceIte, Nat.reduceEqDiff, Nat.reduceAdd, Nat.reduceLeDiff, Nat.reduceSub, Nat.reduceLT, reduceCtorEq, not_true_eq_false, not_false_eq_true, Int.reduceEq, Int.reduceLT, Int.reduceLE, Int.reduceNeg, h0, Int.toNat_natCast, ga, row_eq, hcall, hm]
      refine hK _ _ ?_; clear hK K
      refine wx_cond true rfl (fun _ => ?_) (fun h => by cases h)
      refine wx_seq (wx_region fun K hK => ?_)
      simp only [evW, evX, evM, evN, evC, far, ↓reduceIte, Nat.reduceEqDiff, Nat.reduceAdd, Nat.reduceLeDiff, Nat.reduceSub, Nat.reduceLT, reduceCtorEq, not_true_eq_false, not_false_eq_true, Int.reduceEq, Int.reduceLT, Int.reduceLE, Int.reduceNeg]
      refine hK _ _ ?_; clear hK K
      exact wx_ret (hr _ _ (by rw [ho, badR, hm]; rfl) rfl)
    | true =>
      by_cases h7 : x.kind = 7
      · refine wx_seq (wx_region fun K hK => ?_)
        simp only [evW, evX, evM, evN, evC, far, ↓reduceIte, Nat.reduceEqDiff, Nat.reduceAdd, Nat.reduceLeDiff, Nat.reduceSub, Nat.reduceLT, reduceCtorEq, not_true_eq_false, not_false_eq_true, Int.reduceEq, Int.reduceLT, Int.reduceLE, Int.reduceNeg, h0, Int.toNat_natCast, ga, row_eq, hcall, hm, eq_true h7]
        refine hK _ _ ?_; clear hK K
        refine wx_cond true rfl (fun _ => ?_) (fun h => by cases h)
        refine wx_seq (wx_region fun K hK => ?_)
        simp only [evW, evX, evM, evN, evC, far, ↓reduceIte, Nat.reduceEqDiff, Nat.reduceAdd, Nat.reduceLeDiff, Nat.reduceSub, Nat.reduceLT, reduceCtorEq, not_true_eq_false, not_false_eq_true, Int.reduceEq, Int.reduceLT, Int.reduceLE, Int.reduceNeg]
        refine hK _ _ ?_; clear hK K
        exact wx_ret (hr _ _ (by rw [ho, badR, hm]; simp [h7]) rfl)
      · refine wx_seq (wx_region fun K hK => ?_)
        simp only [evW, evX, evM, evN, evC, far, ↓reduceIte, Nat.reduceEqDiff, Nat.reduceAdd, Nat.reduceLeDiff, Nat.reduceSub, Nat.reduceLT, reduceCtorEq, not_true_eq_false, not_false_eq_true, Int.reduceEq, Int.reduceLT, Int.reduceLE, Int.reduceNeg, h0, Int.toNat_natCast, ga, row_eq, hcall, hm, h7]
        refine hK _ _ ?_; clear hK K
        refine wx_cond false rfl (fun h => by cases h) (fun _ => wx_skip ?_)
        refine wx_region fun K hK => ?_
        simp only [evW, evX, evM, evN, evC, far, ↓reduceIte, Nat.reduceEqDiff, Nat.reduceAdd, Nat.reduceLeDiff, Nat.reduceSub, Nat.reduceLT, reduceCtorEq, not_true_eq_false, not_false_eq_true, Int.reduceEq, Int.reduceLT, Int.reduceLE, Int.reduceNeg, w]
        refine hK _ _ ?_; clear hK K
        refine ⟨_, ?_, ihn (i + 1) (by omega) (by rw [ho, badR, hm]; simp [h7])⟩
        simp only [evH, evX, evN, ↓reduceIte, Nat.reduceEqDiff, Nat.reduceAdd, Nat.reduceLeDiff, Nat.reduceLT, Nat.reduceSub, reduceCtorEq]

/-! ### a row's order -/

def mrLoop2 : CCode := match c110.body with
  | .seq _ (.seq _ (.seq _ (.seq _ (.seq _ (.seq (.seq _ (.block _ (.loop _ c))) _))))) => c
  | _ => .skip

/-- what is asked of a row from a place on. -/
def okFrom (k : Int) (l : List Val) (i : Nat) : Bool :=
  if k = 4 then true else if k = 5 then chainB ltV (l.drop (i - 1)) else (l.drop i).all pairV && chainB ltK (l.drop (i - 1))

theorem okFrom_zero {k : Int} (hk : 4 ≤ k) (hk' : k ≤ 6) (l : List Val) : okFrom k l 0 = rowOk k l := by
  unfold okFrom rowOk
  by_cases h4 : k = 4
  · simp [h4]
  · by_cases h5 : k = 5
    · simp [h5]
    · have h6 : k = 6 := by omega
      simp [h6]

theorem okFrom_end {k : Int} {l : List Val} {i : Nat} (h : l.length ≤ i) : okFrom k l i = true := by
  have hc : ∀ p, chainB p (l.drop (i - 1)) = true := fun p => by
    rcases Nat.lt_or_ge (i - 1) l.length with hlt | hge
    · rw [drop_cons hlt, List.drop_eq_nil_of_le (by omega)]; rfl
    · rw [List.drop_eq_nil_of_le hge]; rfl
  unfold okFrom
  split
  · rfl
  · split
    · exact hc _
    · rw [hc, List.drop_eq_nil_of_le h]; rfl

theorem okFrom_step5 {l : List Val} {j : Nat} (h : j + 1 < l.length) : okFrom 5 l (j + 1) = (ltV l[j] l[j + 1] && okFrom 5 l (j + 1 + 1)) := by
  simp only [okFrom, show ¬ ((5 : Int) = 4) by decide, if_true, if_false, Nat.add_sub_cancel]
  exact chain_step h

theorem okFrom_first5 {l : List Val} : okFrom 5 l 0 = okFrom 5 l 1 := by simp [okFrom]

theorem okFrom_step6 {l : List Val} {j : Nat} (h : j + 1 < l.length) : okFrom 6 l (j + 1) = (pairV l[j + 1] && (ltK l[j] l[j + 1] && okFrom 6 l (j + 1 + 1))) := by
  simp only [okFrom, show ¬ ((6 : Int) = 4) by decide, show ¬ ((6 : Int) = 5) by decide, if_false, Nat.add_sub_cancel]
  rw [chain_step h, drop_cons h, List.all_cons]
  cases pairV l[j + 1] <;> cases ltK l[j] l[j + 1] <;> simp

theorem okFrom_first6 {l : List Val} (h : 0 < l.length) : okFrom 6 l 0 = (pairV l[0] && okFrom 6 l 1) := by
  simp only [okFrom, show ¬ ((6 : Int) = 4) by decide, show ¬ ((6 : Int) = 5) by decide, if_false, Nat.sub_self, Nat.zero_sub]
  rw [drop_cons h, List.all_cons, ← drop_cons h]
  cases pairV l[0] <;> simp


set_option maxHeartbeats 1000000 in
theorem mr_loop2 {v : Val} (hl : v.l.length ≤ 1000) (hk4 : 4 ≤ v.kind) (hk6 : v.kind ≤ 6) (ih : ∀ x ∈ v.l, ∀ y ∈ v.l, lcall E 115 [x.arg, y.arg] [] = some (.d (.i .i64 (cmpV x y)), [])) {Q : Ex → St → Prop} (hx : ∀ tm, rowOk v.kind v.l = true → Q (.exit 3) ⟨tm, [vbox v]⟩) (hr : ∀ tm hp, rowOk v.kind v.l = false → look tm 2 = .d (.b false) → Q .ret ⟨tm, hp⟩) :
    ∀ (n i : Nat), i + n = v.l.length → rowOk v.kind v.l = okFrom v.kind v.l i → (v.kind = 6 → ∀ j, j < i → ∀ x, v.l[j]? = some x → pairV x = true) → LX E mrLoop2 ⟨[1, 4], [], [], [], [], true⟩ 1 ⟨[(1, .ptr 0 0), (4, .d (.i .i64 i))], [vbox v]⟩ Q := by
  intro n
  induction n with
  | zero =>
    intro i hi ho hp
    have hn : ¬ ((i : Int) < v.l.length) := by omega
    rw [okFrom_end (by omega)] at ho
    refine lx_step (wx_seq (wx_seq ?_))
    refine wx_region fun K hK => ?_
    simp only [evW, evX, evM, evN, evC, far, ↓reduceIte, Nat.reduceEqDiff, Nat.reduceAdd, Nat.reduceLeDiff, Nat.reduceSub, Nat.reduceLT, reduceCtorEq, not_true_eq_false, not_false_eq_true, Int.reduceEq, Int.reduceLT, Int.reduceLE, Int.reduceNeg, valRows_length, hn]
    refine hK _ _ ?_; clear hK K
    refine wx_cond false rfl (fun h => by cases h) (fun _ => wx_exit ?_)
    exact hx _ ho
  | succ n ihn =>
    intro i hi ho hp
    have hy : (i : Int) < v.l.length := by omega
    have la : i < v.l.length := by omega
    have h0 : (0 : Int) ≤ i := by omega
    have ga : (valRows v.l)[i]? = some (Val.row v.l[i]) := by rw [valRows_get, List.getElem?_eq_getElem la]; rfl
    have w : IntKind.i64.wrap ((i : Int) + 1) = ((i + 1 : Nat) : Int) := by rw [i64_in (by omega) (by omega)]; omega
    have next : (v.kind = 6 → pairV v.l[i] = true) → ∀ (j : Nat), v.kind = 6 → j < i + 1 → ∀ x, v.l[j]? = some x → pairV x = true := fun hpi j h6 hj x hx => by
      rcases Nat.lt_or_ge j i with h | h
      · exact hp h6 j h x hx
      · obtain rfl : j = i := by omega
        rw [List.getElem?_eq_getElem la] at hx
        cases hx; exact hpi h6
    refine lx_step (wx_seq (wx_seq ?_))
    refine wx_region fun K hK => ?_
    simp only [evW, evX, evM, evN, evC, far, ↓reduceIte, Nat.reduceEqDiff, Nat.reduceAdd, Nat.reduceLeDiff, Nat.reduceSub, Nat.reduceLT, reduceCtorEq, not_true_eq_false, not_false_eq_true, Int.reduceEq, Int.reduceLT, Int.reduceLE, Int.reduceNeg, valRows_length, hy]
    refine hK _ _ ?_; clear hK K
    refine wx_cond true rfl (fun _ => wx_skip ?_) (fun h => by cases h)
    refine wx_seq (wx_block ?_)
    refine wx_seq (wx_region fun K hK => ?_)
    simp only [evW, evX, evM, evN, evC, far, ↓reduceIte, Nat.reduceEqDiff, Nat.reduceAdd, Nat.reduceLeDiff, Nat.reduceSub, Nat.reduceLT, reduceCtorEq, not_true_eq_false, not_false_eq_true, Int.reduceEq, Int.reduceLT, Int.reduceLE, Int.reduceNeg, h0, Int.toNat_natCast, ga, row_eq]
    refine hK _ _ ?_; clear hK K
    refine wx_seq (wx_seq ?_)
    by_cases h4 : v.kind = 4
    · have h5 : ¬ v.kind = 5 := by omega
      have h6 : ¬ v.kind = 6 := by omega
      have hok : okFrom v.kind v.l i = okFrom v.kind v.l (i + 1) := by simp [okFrom, h4]
      refine wx_regionT fun K hK => ?_
      simp only [evW, evX, evM, evN, evC, far, ↓reduceIte, Nat.reduceEqDiff, Nat.reduceAdd, Nat.reduceLeDiff, Nat.reduceSub, Nat.reduceLT, reduceCtorEq, not_true_eq_false, not_false_eq_true, Int.reduceEq, Int.reduceLT, Int.reduceLE, Int.reduceNeg, h5]
      refine hK _ _ (by rfl) ?_; clear hK K
      refine wx_cond false rfl (fun h => by cases h) (fun _ => wx_skip ?_)
      refine wx_seq (wx_regionT fun K hK => ?_)
      simp only [evW, evX, evM, evN, evC, far, ↓reduceIte, Nat.reduceEqDiff, Nat.reduceAdd, Nat.reduceLeDiff, Nat.reduceSub, Nat.reduceLT, reduceCtorEq, not_true_eq_false, not_false_eq_true, Int.reduceEq, Int.reduceLT, Int.reduceLE, Int.reduceNeg, h6]
      refine hK _ _ (by rfl) ?_; clear hK K
      refine wx_cond false rfl (fun h => by cases h) (fun _ => wx_skip ?_)
      refine wx_region fun K hK => ?_
      simp only [evW, evX, evM, evN, evC, far, ↓reduceIte, Nat.reduceEqDiff, Nat.reduceAdd, Nat.reduceLeDiff, Nat.reduceSub, Nat.reduceLT, reduceCtorEq, not_true_eq_false, not_false_eq_true, Int.reduceEq, Int.reduceLT, Int.reduceLE, Int.reduceNeg, w]
      refine hK _ _ ?_; clear hK K
      refine ⟨_, ?_, ihn (i + 1) (by omega) (ho.trans hok) (fun h => absurd h h6)⟩
      simp only [evH, evX, evN, ↓reduceIte, Nat.reduceEqDiff, Nat.reduceAdd, Nat.reduceLeDiff, Nat.reduceLT, Nat.reduceSub, reduceCtorEq]
    · by_cases h5 : v.kind = 5
      · have h6 : ¬ v.kind = 6 := by omega
        cases i with
        | zero =>
          have hz : ¬ ((0 : Int) < ((0 : Nat) : Int)) := by omega
          refine wx_regionT fun K hK => ?_
          simp only [evW, evX, evM, evN, evC, far, ↓reduceIte, Nat.reduceEqDiff, Nat.reduceAdd, Nat.reduceLeDiff, Nat.reduceSub, Nat.reduceLT, reduceCtorEq, not_true_eq_false, not_false_eq_true, Int.reduceEq, Int.reduceLT, Int.reduceLE, Int.reduceNeg, eq_true h5, hz]
          refine hK _ _ (by rfl) ?_; clear hK K
          refine wx_cond false rfl (fun h => by cases h) (fun _ => wx_skip ?_)
          refine wx_seq (wx_regionT fun K hK => ?_)
          simp only [evW, evX, evM, evN, evC, far, ↓reduceIte, Nat.reduceEqDiff, Nat.reduceAdd, Nat.reduceLeDiff, Nat.reduceSub, Nat.reduceLT, reduceCtorEq, not_true_eq_false, not_false_eq_true, Int.reduceEq, Int.reduceLT, Int.reduceLE, Int.reduceNeg, h6]
          refine hK _ _ (by rfl) ?_; clear hK K
          refine wx_cond false rfl (fun h => by cases h) (fun _ => wx_skip ?_)
          refine wx_region fun K hK => ?_
          simp only [evW, evX, evM, evN, evC, far, ↓reduceIte, Nat.reduceEqDiff, Nat.reduceAdd, Nat.reduceLeDiff, Nat.reduceSub, Nat.reduceLT, reduceCtorEq, not_true_eq_false, not_false_eq_true, Int.reduceEq, Int.reduceLT, Int.reduceLE, Int.reduceNeg, w]
          refine hK _ _ ?_; clear hK K
          refine ⟨_, ?_, ihn 1 (by omega) (by rw [ho, h5]; exact okFrom_first5) (fun h => absurd h h6)⟩
          simp only [evH, evX, evN, ↓reduceIte, Nat.reduceEqDiff, Nat.reduceAdd, Nat.reduceLeDiff, Nat.reduceLT, Nat.reduceSub, reduceCtorEq]
        | succ j =>
          have hz : (0 : Int) < ((j + 1 : Nat) : Int) := by omega
          have lj : j < v.l.length := by omega
          have w1 : IntKind.i64.wrap (((j + 1 : Nat) : Int) - 1) = (j : Int) := by rw [i64_in (by omega) (by omega)]; omega
          have hj0 : (0 : Int) ≤ j := by omega
          have gj : (valRows v.l)[j]? = some (Val.row v.l[j]) := by rw [valRows_get, List.getElem?_eq_getElem lj]; rfl
          have hcall := ih v.l[j] (List.getElem_mem lj) v.l[j + 1] (List.getElem_mem la)
          have hst : rowOk v.kind v.l = (ltV v.l[j] v.l[j + 1] && okFrom v.kind v.l (j + 1 + 1)) := by rw [ho, h5]; exact okFrom_step5 la
          clear next ga
          generalize v.l[j] = x at *
          generalize v.l[j + 1] = y at *
          by_cases hxy : 0 ≤ cmpV x y
          · refine wx_regionT fun K hK => ?_
            simp only [evW, evX, evM, evN, evC, far, ↓reduceIte, Nat.reduceEqDiff, Nat.reduceAdd, Nat.reduceLeDiff, Nat.reduceSub, Nat.reduceLT, reduceCtorEq, not_true_eq_false, not_false_eq_true, Int.reduceEq, Int.reduceLT, Int.reduceLE, Int.reduceNeg, eq_true h5, hz, w1, hj0, Int.toNat_natCast, gj, row_eq, hcall, eq_true hxy]
            refine hK _ _ (by rfl) ?_; clear hK K
            refine wx_cond true rfl (fun _ => ?_) (fun h => by cases h)
            refine wx_seq (wx_region fun K hK => ?_)
            simp only [evW, evX, evM, evN, evC, far, ↓reduceIte, Nat.reduceEqDiff, Nat.reduceAdd, Nat.reduceLeDiff, Nat.reduceSub, Nat.reduceLT, reduceCtorEq, not_true_eq_false, not_false_eq_true, Int.reduceEq, Int.reduceLT, Int.reduceLE, Int.reduceNeg]
            refine hK _ _ ?_; clear hK K
            refine wx_ret (hr _ _ ?_ rfl)
            rw [hst, ltV, show decide (cmpV x y < 0) = false from decide_eq_false (by omega)]; rfl
          · refine wx_regionT fun K hK => ?_
            simp only [evW, evX, evM, evN, evC, far, ↓reduceIte, Nat.reduceEqDiff, Nat.reduceAdd, Nat.reduceLeDiff, Nat.reduceSub, Nat.reduceLT, reduceCtorEq, not_true_eq_false, not_false_eq_true, Int.reduceEq, Int.reduceLT, Int.reduceLE, Int.reduceNeg, eq_true h5, hz, w1, hj0, Int.toNat_natCast, gj, row_eq, hcall, hxy]
            refine hK _ _ (by rfl) ?_; clear hK K
            refine wx_cond false rfl (fun h => by cases h) (fun _ => wx_skip ?_)
            refine wx_seq (wx_regionT fun K hK => ?_)
            simp only [evW, evX, evM, evN, evC, far, ↓reduceIte, Nat.reduceEqDiff, Nat.reduceAdd, Nat.reduceLeDiff, Nat.reduceSub, Nat.reduceLT, reduceCtorEq, not_true_eq_false, not_false_eq_true, Int.reduceEq, Int.reduceLT, Int.reduceLE, Int.reduceNeg, h6]
            refine hK _ _ (by rfl) ?_; clear hK K
            refine wx_cond false rfl (fun h => by cases h) (fun _ => wx_skip ?_)
            refine wx_region fun K hK => ?_
            simp only [evW, evX, evM, evN, evC, far, ↓reduceIte, Nat.reduceEqDiff, Nat.reduceAdd, Nat.reduceLeDiff, Nat.reduceSub, Nat.reduceLT, reduceCtorEq, not_true_eq_false, not_false_eq_true, Int.reduceEq, Int.reduceLT, Int.reduceLE, Int.reduceNeg, w]
            refine hK _ _ ?_; clear hK K
            refine ⟨_, ?_, ihn (j + 1 + 1) (by omega) ?_ (fun h => absurd h h6)⟩
            · simp only [evH, evX, evN, ↓reduceIte, Nat.reduceEqDiff, Nat.reduceAdd, Nat.reduceLeDiff, Nat.reduceLT, Nat.reduceSub, reduceCtorEq]
            · rw [hst, ltV, show decide (cmpV x y < 0) = true from decide_eq_true (by omega)]; rfl
      · have h6 : v.kind = 6 := by omega
        refine wx_regionT fun K hK => ?_
        simp only [evW, evX, evM, evN, evC, far, ↓reduceIte, Nat.reduceEqDiff, Nat.reduceAdd, Nat.reduceLeDiff, Nat.reduceSub, Nat.reduceLT, reduceCtorEq, not_true_eq_false, not_false_eq_true, Int.reduceEq, Int.reduceLT, Int.reduceLE, Int.reduceNeg, h5]
        refine hK _ _ (by rfl) ?_; clear hK K
        refine wx_cond false rfl (fun h => by cases h) (fun _ => wx_skip ?_)
        have first : i = 0 → rowOk v.kind v.l = (pairV v.l[i] && okFrom v.kind v.l (i + 1)) := fun hi0 => by
          subst hi0
          rw [ho, h6]; exact okFrom_first6 la
        have later : ∀ j, i = j + 1 → ∀ x, v.l[j]? = some x → rowOk v.kind v.l = (pairV v.l[i] && (ltK x v.l[i] && okFrom v.kind v.l (i + 1))) := fun j hij x hx => by
          subst hij
          have lj : j < v.l.length := by omega
          rw [List.getElem?_eq_getElem lj] at hx
          cases hx
          rw [ho, h6]; exact okFrom_step6 la
        have nopair : pairV v.l[i] = false → rowOk v.kind v.l = false := fun hpf => by
          cases i with
          | zero => rw [first rfl, hpf]; rfl
          | succ j => rw [later j rfl v.l[j] (List.getElem?_eq_getElem (by omega)), hpf]; rfl
        generalize v.l[i] = y at *
        by_cases k4 : y.kind = 4
        · by_cases kl : y.l.length = 2
          · obtain ⟨a, b, hab⟩ : ∃ a b, y.l = [a, b] := by
              match h : y.l, kl with
              | [a, b], _ => exact ⟨a, b, rfl⟩
            by_cases k3 : a.kind = 3
            · have hpair : pairV y = true := by simp [pairV, k4, hab, k3]
              cases i with
              | zero =>
                have hz : ¬ ((0 : Int) < ((0 : Nat) : Int)) := by omega
                refine wx_seq (wx_regionT fun K hK => ?_)
                simp only [evW, evX, evM, evN, evC, far, ↓reduceIte, Nat.reduceEqDiff, Nat.reduceAdd, Nat.reduceLeDiff, Nat.reduceSub, Nat.reduceLT, reduceCtorEq, not_true_eq_false, not_false_eq_true, Int.reduceEq, Int.reduceLT, Int.reduceLE, Int.reduceNeg, eq_true h6, eq_true k4, hab, valRows, Int.cast_ofNat_Int, Int.toNat_zero, Std.le_refl, row_eq, eq_true k3, hz]
                refine hK _ _ (by rfl) ?_; clear hK K
                refine wx_cond false rfl (fun h => by cases h) (fun _ => wx_skip ?_)
                have w0 : IntKind.i64.wrap ((0 : Int) + 1) = ((1 : Nat) : Int) := by rw [i64_in (by omega) (by omega)]; omega
                refine wx_region fun K hK => ?_
                simp only [evW, evX, evM, evN, evC, far, ↓reduceIte, Nat.reduceEqDiff, Nat.reduceAdd, Nat.reduceLeDiff, Nat.reduceSub, Nat.reduceLT, reduceCtorEq, not_true_eq_false, not_false_eq_true, Int.reduceEq, Int.reduceLT, Int.reduceLE, Int.reduceNeg, w, w0]
                refine hK _ _ ?_; clear hK K
                refine ⟨_, ?_, ihn 1 (by omega) (by rw [first rfl, hpair]; rfl) (fun h6 j hj x hx => next (fun _ => hpair) j h6 hj x hx)⟩
                simp only [evH, evX, evN, ↓reduceIte, Nat.reduceEqDiff, Nat.reduceAdd, Nat.reduceLeDiff, Nat.reduceLT, Nat.reduceSub, reduceCtorEq]
              | succ j =>
                have hz : (0 : Int) < ((j + 1 : Nat) : Int) := by omega
                have lj : j < v.l.length := by omega
                have w1 : IntKind.i64.wrap (((j + 1 : Nat) : Int) - 1) = (j : Int) := by rw [i64_in (by omega) (by omega)]; omega
                have hj0 : (0 : Int) ≤ j := by omega
                have gj : (valRows v.l)[j]? = some (Val.row v.l[j]) := by rw [valRows_get, List.getElem?_eq_getElem lj]; rfl
                have hpx := hp h6 j (by omega) v.l[j] (List.getElem?_eq_getElem lj)
                have hl8 := later j rfl v.l[j] (List.getElem?_eq_getElem lj)
                clear ga
                generalize v.l[j] = x at *
                obtain ⟨p, q, hpq⟩ : ∃ p q, x.l = [p, q] := by
                  have := pair_len hpx
                  match h : x.l, this with
                  | [p, q], _ => exact ⟨p, q, rfl⟩
                have hlt : ltK x y = bytesLess p.s a.s := by simp [ltK, keyV, hpq, hab]
                cases hb : bytesLess p.s a.s with
                | true =>
                  refine wx_seq (wx_regionT fun K hK => ?_)
                  simp only [evW, evX, evM, evN, evC, far, ↓reduceIte, Nat.reduceEqDiff, Nat.reduceAdd, Nat.reduceLeDiff, Nat.reduceSub, Nat.reduceLT, reduceCtorEq, not_true_eq_false, not_false_eq_true, Int.reduceEq, Int.reduceLT, Int.reduceLE, Int.reduceNeg, eq_true h6, eq_true k4, hab, valRows, Int.cast_ofNat_Int, Int.toNat_zero, Std.le_refl, row_eq, eq_true k3, hz, w1, hj0, Int.toNat_natCast, gj, hpq, hb]
                  refine hK _ _ (by rfl) ?_; clear hK K
                  refine wx_cond false rfl (fun h => by cases h) (fun _ => wx_skip ?_)
                  refine wx_region fun K hK => ?_
                  simp only [evW, evX, evM, evN, evC, far, ↓reduceIte, Nat.reduceEqDiff, Nat.reduceAdd, Nat.reduceLeDiff, Nat.reduceSub, Nat.reduceLT, reduceCtorEq, not_true_eq_false, not_false_eq_true, Int.reduceEq, Int.reduceLT, Int.reduceLE, Int.reduceNeg, w]
                  refine hK _ _ ?_; clear hK K
                  refine ⟨_, ?_, ihn (j + 1 + 1) (by omega) (by rw [hl8, hpair, hlt, hb]; rfl) (fun h6 j hj x hx => next (fun _ => hpair) j h6 hj x hx)⟩
                  simp only [evH, evX, evN, ↓reduceIte, Nat.reduceEqDiff, Nat.reduceAdd, Nat.reduceLeDiff, Nat.reduceLT, Nat.reduceSub, reduceCtorEq]
                | false =>
                  refine wx_seq (wx_regionT fun K hK => ?_)
                  simp only [evW, evX, evM, evN, evC, far, ↓reduceIte, Nat.reduceEqDiff, Nat.reduceAdd, Nat.reduceLeDiff, Nat.reduceSub, Nat.reduceLT, reduceCtorEq, not_true_eq_false, not_false_eq_true, Int.reduceEq, Int.reduceLT, Int.reduceLE, Int.reduceNeg, eq_true h6, eq_true k4, hab, valRows, Int.cast_ofNat_Int, Int.toNat_zero, Std.le_refl, row_eq, eq_true k3, hz, w1, hj0, Int.toNat_natCast, gj, hpq, hb]
                  refine hK _ _ (by rfl) ?_; clear hK K
                  refine wx_cond true rfl (fun _ => ?_) (fun h => by cases h)
                  refine wx_seq (wx_region fun K hK => ?_)
                  simp only [evW, evX, evM, evN, evC, far, ↓reduceIte, Nat.reduceEqDiff, Nat.reduceAdd, Nat.reduceLeDiff, Nat.reduceSub, Nat.reduceLT, reduceCtorEq, not_true_eq_false, not_false_eq_true, Int.reduceEq, Int.reduceLT, Int.reduceLE, Int.reduceNeg]
                  refine hK _ _ ?_; clear hK K
                  exact wx_ret (hr _ _ (by rw [hl8, hpair, hlt, hb]; rfl) rfl)
            · refine wx_seq (wx_regionT fun K hK => ?_)
              simp only [evW, evX, evM, evN, evC, far, ↓reduceIte, Nat.reduceEqDiff, Nat.reduceAdd, Nat.reduceLeDiff, Nat.reduceSub, Nat.reduceLT, reduceCtorEq, not_true_eq_false, not_false_eq_true, Int.reduceEq, Int.reduceLT, Int.reduceLE, Int.reduceNeg, eq_true h6, eq_true k4, hab, valRows, Int.cast_ofNat_Int, Int.toNat_zero, Std.le_refl, row_eq, k3]
              refine hK _ _ (by rfl) ?_; clear hK K
              refine wx_cond true rfl (fun _ => ?_) (fun h => by cases h)
              refine wx_seq (wx_region fun K hK => ?_)
              simp only [evW, evX, evM, evN, evC, far, ↓reduceIte, Nat.reduceEqDiff, Nat.reduceAdd, Nat.reduceLeDiff, Nat.reduceSub, Nat.reduceLT, reduceCtorEq, not_true_eq_false, not_false_eq_true, Int.reduceEq, Int.reduceLT, Int.reduceLE, Int.reduceNeg]
              refine hK _ _ ?_; clear hK K
              exact wx_ret (hr _ _ (nopair (by simp [pairV, k4, hab, k3])) rfl)
          · have kl' : ¬ ((y.l.length : Int) = 2) := by omega
            refine wx_seq (wx_regionT fun K hK => ?_)
            simp only [evW, evX, evM, evN, evC, far, ↓reduceIte, Nat.reduceEqDiff, Nat.reduceAdd, Nat.reduceLeDiff, Nat.reduceSub, Nat.reduceLT, reduceCtorEq, not_true_eq_false, not_false_eq_true, Int.reduceEq, Int.reduceLT, Int.reduceLE, Int.reduceNeg, eq_true h6, eq_true k4, valRows_length, kl']
            refine hK _ _ (by rfl) ?_; clear hK K
            refine wx_cond true rfl (fun _ => ?_) (fun h => by cases h)
            refine wx_seq (wx_region fun K hK => ?_)
            simp only [evW, evX, evM, evN, evC, far, ↓reduceIte, Nat.reduceEqDiff, Nat.reduceAdd, Nat.reduceLeDiff, Nat.reduceSub, Nat.reduceLT, reduceCtorEq, not_true_eq_false, not_false_eq_true, Int.reduceEq, Int.reduceLT, Int.reduceLE, Int.reduceNeg]
            refine hK _ _ ?_; clear hK K
            refine wx_ret (hr _ _ (nopair ?_) rfl)
            cases hpv : pairV y with
            | false => rfl
            | true => exact absurd (pair_len hpv) kl
        · refine wx_seq (wx_regionT fun K hK => ?_)
          simp only [evW, evX, evM, evN, evC, far, ↓reduceIte, Nat.reduceEqDiff, Nat.reduceAdd, Nat.reduceLeDiff, Nat.reduceSub, Nat.reduceLT, reduceCtorEq, not_true_eq_false, not_false_eq_true, Int.reduceEq, Int.reduceLT, Int.reduceLE, Int.reduceNeg, eq_true h6, k4]
          refine hK _ _ (by rfl) ?_; clear hK K
          refine wx_cond true rfl (fun _ => ?_) (fun h => by cases h)
          refine wx_seq (wx_region fun K hK => ?_)
          simp only [evW, evX, evM, evN, evC, far, ↓reduceIte, Nat.reduceEqDiff, Nat.reduceAdd, Nat.reduceLeDiff, Nat.reduceSub, Nat.reduceLT, reduceCtorEq, not_true_eq_false, not_false_eq_true, Int.reduceEq, Int.reduceLT, Int.reduceLE, Int.reduceNeg]
          refine hK _ _ ?_; clear hK K
          exact wx_ret (hr _ _ (nopair (by simp [pairV, k4])) rfl)

set_option maxHeartbeats 1000000 in
theorem refMay_ok (h110 : E 110 = some (.code c110)) (hsize : ∀ v, Small v → lcall E 113 [v.arg] [] = some (.d (.i .i64 (sizeV v)), [])) (hcmp : ∀ (a b : Val), Small a → Small b → lcall E 115 [a.arg, b.arg] [] = some (.d (.i .i64 (cmpV a b)), [])) :
    ∀ (v : Val), Small v → Fit v → lcall E 110 [v.arg] [] = some (.d (.b (mayR v)), []) := by
  intro v hs
  induction hs with
  | @mk v hl hsub ih =>
  intro hf
  have hsz := hsize v (.mk hl hsub)
  refine call_wx h110 ?_
  refine wx_seq (wx_region fun K hK => ?_)
  simp only [evW, evX, evM, evN, evC, far, ↓reduceIte, Nat.reduceEqDiff, Nat.reduceAdd, Nat.reduceLeDiff, Nat.reduceSub, Nat.reduceLT, reduceCtorEq, not_true_eq_false, not_false_eq_true, Int.reduceEq, Int.reduceLT, Int.reduceLE, Int.reduceNeg]
  refine hK _ _ ?_; clear hK K
  refine wx_seq (wx_seq ?_)
  by_cases h60 : 60 < sizeV v
  · refine wx_region fun K hK => ?_
    simp only [evW, evX, evM, evN, evC, far, ↓reduceIte, Nat.reduceEqDiff, Nat.reduceAdd, Nat.reduceLeDiff, Nat.reduceSub, Nat.reduceLT, reduceCtorEq, not_true_eq_false, not_false_eq_true, Int.reduceEq, Int.reduceLT, Int.reduceLE, Int.reduceNeg, hsz, eq_true h60]
    refine hK _ _ ?_; clear hK K
    refine wx_cond true rfl (fun _ => ?_) (fun h => by cases h)
    refine wx_seq (wx_region fun K hK => ?_)
    simp only [evW, evX, evM, evN, evC, far, ↓reduceIte, Nat.reduceEqDiff, Nat.reduceAdd, Nat.reduceLeDiff, Nat.reduceSub, Nat.reduceLT, reduceCtorEq, not_true_eq_false, not_false_eq_true, Int.reduceEq, Int.reduceLT, Int.reduceLE, Int.reduceNeg]
    refine hK _ _ ?_; clear hK K
    refine wx_ret ⟨.inr rfl, ?_⟩
    simp only [evR, evX, evC, evN, ↓reduceIte, Nat.reduceEqDiff, Nat.reduceAdd, Nat.reduceLeDiff, Nat.reduceLT, Nat.reduceSub, reduceCtorEq, far, c110]
    simp [mayR, show ¬ sizeV v ≤ 60 by omega]
  · have h60' : sizeV v ≤ 60 := by omega
    have hR : mayR v = mayV v := by simp [mayR, h60']
    have hbad := badR_any hf h60'
    refine wx_region fun K hK => ?_
    simp only [evW, evX, evM, evN, evC, far, ↓reduceIte, Nat.reduceEqDiff, Nat.reduceAdd, Nat.reduceLeDiff, Nat.reduceSub, Nat.reduceLT, reduceCtorEq, not_true_eq_false, not_false_eq_true, Int.reduceEq, Int.reduceLT, Int.reduceLE, Int.reduceNeg, hsz, h60]
    refine hK _ _ ?_; clear hK K
    refine wx_cond false rfl (fun h => by cases h) (fun _ => wx_skip ?_)
    refine wx_seq (wx_seq ?_)
    refine wx_region fun K hK => ?_
    simp only [evW, evX, evM, evN, evC, far, ↓reduceIte, Nat.reduceEqDiff, Nat.reduceAdd, Nat.reduceLeDiff, Nat.reduceSub, Nat.reduceLT, reduceCtorEq, not_true_eq_false, not_false_eq_true, Int.reduceEq, Int.reduceLT, Int.reduceLE, Int.reduceNeg]
    refine hK _ _ ?_; clear hK K
    refine wx_block (wx_loop ?_)
    simp only [evH, evX, evN, ↓reduceIte, Nat.reduceEqDiff, Nat.reduceAdd, Nat.reduceLeDiff, Nat.reduceLT, Nat.reduceSub, reduceCtorEq]
    refine mr_loop1 hl (fun x hx => ih x hx (fit_sub hf x hx)) (fun tm t1 hany => ?_) (fun tm hp hany t2 => ?_) v.l.length 0 (by omega) rfl
    · have hmL : mayL v.l = true := by rw [mayL_any, ← hbad, hany]; rfl
      have hle : ∀ (b : Bool), (decide ((v.l.length : Int) = 0)) = v.l.isEmpty := fun _ => by cases v.l <;> simp; omega
      refine wx_seq (wx_seq ?_)
      refine wx_region fun K hK => ?_
      simp only [evW, evX, evM, evN, evC, far, ↓reduceIte, Nat.reduceEqDiff, Nat.reduceAdd, Nat.reduceLeDiff, Nat.reduceSub, Nat.reduceLT, reduceCtorEq, not_true_eq_false, not_false_eq_true, Int.reduceEq, Int.reduceLT, Int.reduceLE, Int.reduceNeg, t1]
      refine hK _ _ ?_; clear hK K
      refine wx_block ?_
      by_cases h1 : v.kind = 1
      · refine wx_seq (wx_region fun K hK => ?_)
        simp only [evW, evX, evM, evN, evC, far, ↓reduceIte, Nat.reduceEqDiff, Nat.reduceAdd, Nat.reduceLeDiff, Nat.reduceSub, Nat.reduceLT, reduceCtorEq, not_true_eq_false, not_false_eq_true, Int.reduceEq, Int.reduceLT, Int.reduceLE, Int.reduceNeg, eq_true h1]
        refine hK _ _ ?_; clear hK K
        refine wx_cond true rfl (fun _ => ?_) (fun h => by cases h)
        by_cases hse : v.s = []
        · refine wx_seq (wx_region fun K hK => ?_)
          simp only [evW, evX, evM, evN, evC, far, ↓reduceIte, Nat.reduceEqDiff, Nat.reduceAdd, Nat.reduceLeDiff, Nat.reduceSub, Nat.reduceLT, reduceCtorEq, not_true_eq_false, not_false_eq_true, Int.reduceEq, Int.reduceLT, Int.reduceLE, Int.reduceNeg, t1, eq_true hse, valRows_length]
          refine hK _ _ ?_; clear hK K
          refine wx_ret ⟨.inr rfl, ?_⟩
          simp only [evR, evX, evC, evN, ↓reduceIte, Nat.reduceEqDiff, Nat.reduceAdd, Nat.reduceLeDiff, Nat.reduceLT, Nat.reduceSub, reduceCtorEq, far, c110]
          rw [hR, mayV_eq, hmL, hle true]; simp [h1, hse, numOk, rowOk]
        · refine wx_seq (wx_region fun K hK => ?_)
          simp only [evW, evX, evM, evN, evC, far, ↓reduceIte, Nat.reduceEqDiff, Nat.reduceAdd, Nat.reduceLeDiff, Nat.reduceSub, Nat.reduceLT, reduceCtorEq, not_true_eq_false, not_false_eq_true, Int.reduceEq, Int.reduceLT, Int.reduceLE, Int.reduceNeg, t1, hse]
          refine hK _ _ ?_; clear hK K
          refine wx_ret ⟨.inr rfl, ?_⟩
          simp only [evR, evX, evC, evN, ↓reduceIte, Nat.reduceEqDiff, Nat.reduceAdd, Nat.reduceLeDiff, Nat.reduceLT, Nat.reduceSub, reduceCtorEq, far, c110]
          rw [hR, mayV_eq, hmL]; simp [h1, hse, numOk, rowOk]
      · refine wx_seq (wx_region fun K hK => ?_)
        simp only [evW, evX, evM, evN, evC, far, ↓reduceIte, Nat.reduceEqDiff, Nat.reduceAdd, Nat.reduceLeDiff, Nat.reduceSub, Nat.reduceLT, reduceCtorEq, not_true_eq_false, not_false_eq_true, Int.reduceEq, Int.reduceLT, Int.reduceLE, Int.reduceNeg, h1]
        refine hK _ _ ?_; clear hK K
        refine wx_cond false rfl (fun h => by cases h) (fun _ => ?_)
        by_cases h2 : v.kind = 2
        · refine wx_seq (wx_region fun K hK => ?_)
          simp only [evW, evX, evM, evN, evC, far, ↓reduceIte, Nat.reduceEqDiff, Nat.reduceAdd, Nat.reduceLeDiff, Nat.reduceSub, Nat.reduceLT, reduceCtorEq, not_true_eq_false, not_false_eq_true, Int.reduceEq, Int.reduceLT, Int.reduceLE, Int.reduceNeg, eq_true h2]
          refine hK _ _ ?_; clear hK K
          refine wx_cond true rfl (fun _ => ?_) (fun h => by cases h)
          by_cases hse : v.s = []
          · by_cases hle0 : (v.l.length : Int) = 0
            · have hemp : v.l = [] := List.length_eq_zero_iff.1 (by omega)
              by_cases hi0 : v.i = 0
              · refine wx_seq (wx_region fun K hK => ?_)
                simp only [evW, evX, evM, evN, evC, far, ↓reduceIte, Nat.reduceEqDiff, Nat.reduceAdd, Nat.reduceLeDiff, Nat.reduceSub, Nat.reduceLT, reduceCtorEq, not_true_eq_false, not_false_eq_true, Int.reduceEq, Int.reduceLT, Int.reduceLE, Int.reduceNeg, t1, eq_true hse, valRows_length, eq_true hle0, eq_true hi0]
                refine hK _ _ ?_; clear hK K
                refine wx_ret ⟨.inr rfl, ?_⟩
                simp only [evR, evX, evC, evN, ↓reduceIte, Nat.reduceEqDiff, Nat.reduceAdd, Nat.reduceLeDiff, Nat.reduceLT, Nat.reduceSub, reduceCtorEq, far, c110]
                rw [hR, mayV_eq, hmL]; simp [h2, hse, numOk, rowOk, hemp, hi0]
              · refine wx_seq (wx_region fun K hK => ?_)
                simp only [evW, evX, evM, evN, evC, far, ↓reduceIte, Nat.reduceEqDiff, Nat.reduceAdd, Nat.reduceLeDiff, Nat.reduceSub, Nat.reduceLT, reduceCtorEq, not_true_eq_false, not_false_eq_true, Int.reduceEq, Int.reduceLT, Int.reduceLE, Int.reduceNeg, t1, eq_true hse, valRows_length, eq_true hle0, hi0]
                refine hK _ _ ?_; clear hK K
                refine wx_ret ⟨.inr rfl, ?_⟩
                simp only [evR, evX, evC, evN, ↓reduceIte, Nat.reduceEqDiff, Nat.reduceAdd, Nat.reduceLeDiff, Nat.reduceLT, Nat.reduceSub, reduceCtorEq, far, c110]
                rw [hR, mayV_eq, hmL]; simp [h2, hse, numOk, rowOk, hemp, hi0]
            · have hne : v.l.isEmpty = false := (hle true).symm.trans (decide_eq_false hle0)
              refine wx_seq (wx_region fun K hK => ?_)
              simp only [evW, evX, evM, evN, evC, far, ↓reduceIte, Nat.reduceEqDiff, Nat.reduceAdd, Nat.reduceLeDiff, Nat.reduceSub, Nat.reduceLT, reduceCtorEq, not_true_eq_false, not_false_eq_true, Int.reduceEq, Int.reduceLT, Int.reduceLE, Int.reduceNeg, t1, eq_true hse, valRows_length, hle0]
              refine hK _ _ ?_; clear hK K
              refine wx_ret ⟨.inr rfl, ?_⟩
              simp only [evR, evX, evC, evN, ↓reduceIte, Nat.reduceEqDiff, Nat.reduceAdd, Nat.reduceLeDiff, Nat.reduceLT, Nat.reduceSub, reduceCtorEq, far, c110]
              rw [hR, mayV_eq, hmL]; simp [h2, hse, numOk, rowOk, hne]
          · refine wx_seq (wx_region fun K hK => ?_)
            simp only [evW, evX, evM, evN, evC, far, ↓reduceIte, Nat.reduceEqDiff, Nat.reduceAdd, Nat.reduceLeDiff, Nat.reduceSub, Nat.reduceLT, reduceCtorEq, not_true_eq_false, not_false_eq_true, Int.reduceEq, Int.reduceLT, Int.reduceLE, Int.reduceNeg, t1, hse]
            refine hK _ _ ?_; clear hK K
            refine wx_ret ⟨.inr rfl, ?_⟩
            simp only [evR, evX, evC, evN, ↓reduceIte, Nat.reduceEqDiff, Nat.reduceAdd, Nat.reduceLeDiff, Nat.reduceLT, Nat.reduceSub, reduceCtorEq, far, c110]
            rw [hR, mayV_eq, hmL]; simp [h2, hse, numOk, rowOk]
        · refine wx_seq (wx_region fun K hK => ?_)
          simp only [evW, evX, evM, evN, evC, far, ↓reduceIte, Nat.reduceEqDiff, Nat.reduceAdd, Nat.reduceLeDiff, Nat.reduceSub, Nat.reduceLT, reduceCtorEq, not_true_eq_false, not_false_eq_true, Int.reduceEq, Int.reduceLT, Int.reduceLE, Int.reduceNeg, h2]
          refine hK _ _ ?_; clear hK K
          refine wx_cond false rfl (fun h => by cases h) (fun _ => ?_)
          by_cases h3 : v.kind = 3
          · refine wx_seq (wx_region fun K hK => ?_)
            simp only [evW, evX, evM, evN, evC, far, ↓reduceIte, Nat.reduceEqDiff, Nat.reduceAdd, Nat.reduceLeDiff, Nat.reduceSub, Nat.reduceLT, reduceCtorEq, not_true_eq_false, not_false_eq_true, Int.reduceEq, Int.reduceLT, Int.reduceLE, Int.reduceNeg, eq_true h3]
            refine hK _ _ ?_; clear hK K
            refine wx_cond true rfl (fun _ => ?_) (fun h => by cases h)
            by_cases hi0 : v.i = 0
            · refine wx_seq (wx_region fun K hK => ?_)
              simp only [evW, evX, evM, evN, evC, far, ↓reduceIte, Nat.reduceEqDiff, Nat.reduceAdd, Nat.reduceLeDiff, Nat.reduceSub, Nat.reduceLT, reduceCtorEq, not_true_eq_false, not_false_eq_true, Int.reduceEq, Int.reduceLT, Int.reduceLE, Int.reduceNeg, t1, eq_true hi0, valRows_length]
              refine hK _ _ ?_; clear hK K
              refine wx_ret ⟨.inr rfl, ?_⟩
              simp only [evR, evX, evC, evN, ↓reduceIte, Nat.reduceEqDiff, Nat.reduceAdd, Nat.reduceLeDiff, Nat.reduceLT, Nat.reduceSub, reduceCtorEq, far, c110]
              rw [hR, mayV_eq, hmL, hle true]; simp [h3, numOk, rowOk, hi0]
            · refine wx_seq (wx_region fun K hK => ?_)
              simp only [evW, evX, evM, evN, evC, far, ↓reduceIte, Nat.reduceEqDiff, Nat.reduceAdd, Nat.reduceLeDiff, Nat.reduceSub, Nat.reduceLT, reduceCtorEq, not_true_eq_false, not_false_eq_true, Int.reduceEq, Int.reduceLT, Int.reduceLE, Int.reduceNeg, t1, hi0]
              refine hK _ _ ?_; clear hK K
              refine wx_ret ⟨.inr rfl, ?_⟩
              simp only [evR, evX, evC, evN, ↓reduceIte, Nat.reduceEqDiff, Nat.reduceAdd, Nat.reduceLeDiff, Nat.reduceLT, Nat.reduceSub, reduceCtorEq, far, c110]
              rw [hR, mayV_eq, hmL]; simp [h3, numOk, rowOk, hi0]
          · refine wx_seq (wx_region fun K hK => ?_)
            simp only [evW, evX, evM, evN, evC, far, ↓reduceIte, Nat.reduceEqDiff, Nat.reduceAdd, Nat.reduceLeDiff, Nat.reduceSub, Nat.reduceLT, reduceCtorEq, not_true_eq_false, not_false_eq_true, Int.reduceEq, Int.reduceLT, Int.reduceLE, Int.reduceNeg, h3]
            refine hK _ _ ?_; clear hK K
            refine wx_cond false rfl (fun h => by cases h) (fun _ => ?_)
            by_cases h7 : v.kind = 7
            · refine wx_seq (wx_region fun K hK => ?_)
              simp only [evW, evX, evM, evN, evC, far, ↓reduceIte, Nat.reduceEqDiff, Nat.reduceAdd, Nat.reduceLeDiff, Nat.reduceSub, Nat.reduceLT, reduceCtorEq, not_true_eq_false, not_false_eq_true, Int.reduceEq, Int.reduceLT, Int.reduceLE, Int.reduceNeg, eq_true h7]
              refine hK _ _ ?_; clear hK K
              refine wx_cond true rfl (fun _ => ?_) (fun h => by cases h)
              by_cases hse : v.s = []
              · by_cases hle0 : (v.l.length : Int) = 0
                · have hemp : v.l = [] := List.length_eq_zero_iff.1 (by omega)
                  by_cases hi0 : 1 ≤ v.i
                  · refine wx_seq (wx_region fun K hK => ?_)
                    simp only [evW, evX, evM, evN, evC, far, ↓reduceIte, Nat.reduceEqDiff, Nat.reduceAdd, Nat.reduceLeDiff, Nat.reduceSub, Nat.reduceLT, reduceCtorEq, not_true_eq_false, not_false_eq_true, Int.reduceEq, Int.reduceLT, Int.reduceLE, Int.reduceNeg, t1, eq_true hse, valRows_length, eq_true hle0, eq_true hi0]
                    refine hK _ _ ?_; clear hK K
                    refine wx_ret ⟨.inr rfl, ?_⟩
                    simp only [evR, evX, evC, evN, ↓reduceIte, Nat.reduceEqDiff, Nat.reduceAdd, Nat.reduceLeDiff, Nat.reduceLT, Nat.reduceSub, reduceCtorEq, far, c110]
                    rw [hR, mayV_eq, hmL]; simp [h7, hse, numOk, rowOk, hemp, hi0]
                  · refine wx_seq (wx_region fun K hK => ?_)
                    simp only [evW, evX, evM, evN, evC, far, ↓reduceIte, Nat.reduceEqDiff, Nat.reduceAdd, Nat.reduceLeDiff, Nat.reduceSub, Nat.reduceLT, reduceCtorEq, not_true_eq_false, not_false_eq_true, Int.reduceEq, Int.reduceLT, Int.reduceLE, Int.reduceNeg, t1, eq_true hse, valRows_length, eq_true hle0, hi0]
                    refine hK _ _ ?_; clear hK K
                    refine wx_ret ⟨.inr rfl, ?_⟩
                    simp only [evR, evX, evC, evN, ↓reduceIte, Nat.reduceEqDiff, Nat.reduceAdd, Nat.reduceLeDiff, Nat.reduceLT, Nat.reduceSub, reduceCtorEq, far, c110]
                    rw [hR, mayV_eq, hmL]; simp [h7, hse, numOk, rowOk, hemp, hi0]
                · have hne : v.l.isEmpty = false := (hle true).symm.trans (decide_eq_false hle0)
                  refine wx_seq (wx_region fun K hK => ?_)
                  simp only [evW, evX, evM, evN, evC, far, ↓reduceIte, Nat.reduceEqDiff, Nat.reduceAdd, Nat.reduceLeDiff, Nat.reduceSub, Nat.reduceLT, reduceCtorEq, not_true_eq_false, not_false_eq_true, Int.reduceEq, Int.reduceLT, Int.reduceLE, Int.reduceNeg, t1, eq_true hse, valRows_length, hle0]
                  refine hK _ _ ?_; clear hK K
                  refine wx_ret ⟨.inr rfl, ?_⟩
                  simp only [evR, evX, evC, evN, ↓reduceIte, Nat.reduceEqDiff, Nat.reduceAdd, Nat.reduceLeDiff, Nat.reduceLT, Nat.reduceSub, reduceCtorEq, far, c110]
                  rw [hR, mayV_eq, hmL]; simp [h7, hse, numOk, rowOk, hne]
              · refine wx_seq (wx_region fun K hK => ?_)
                simp only [evW, evX, evM, evN, evC, far, ↓reduceIte, Nat.reduceEqDiff, Nat.reduceAdd, Nat.reduceLeDiff, Nat.reduceSub, Nat.reduceLT, reduceCtorEq, not_true_eq_false, not_false_eq_true, Int.reduceEq, Int.reduceLT, Int.reduceLE, Int.reduceNeg, t1, hse]
                refine hK _ _ ?_; clear hK K
                refine wx_ret ⟨.inr rfl, ?_⟩
                simp only [evR, evX, evC, evN, ↓reduceIte, Nat.reduceEqDiff, Nat.reduceAdd, Nat.reduceLeDiff, Nat.reduceLT, Nat.reduceSub, reduceCtorEq, far, c110]
                rw [hR, mayV_eq, hmL]; simp [h7, hse, numOk, rowOk]
            · refine wx_seq (wx_region fun K hK => ?_)
              simp only [evW, evX, evM, evN, evC, far, ↓reduceIte, Nat.reduceEqDiff, Nat.reduceAdd, Nat.reduceLeDiff, Nat.reduceSub, Nat.reduceLT, reduceCtorEq, not_true_eq_false, not_false_eq_true, Int.reduceEq, Int.reduceLT, Int.reduceLE, Int.reduceNeg, h7]
              refine hK _ _ ?_; clear hK K
              refine wx_cond false rfl (fun h => by cases h) (fun _ => wx_skip ?_)
              refine wx_seq (wx_seq ?_)
              by_cases hi0 : v.i = 0
              · by_cases hse : v.s = []
                · by_cases h4 : v.kind < 4
                  · refine wx_region fun K hK => ?_
                    simp only [evW, evX, evM, evN, evC, far, ↓reduceIte, Nat.reduceEqDiff, Nat.reduceAdd, Nat.reduceLeDiff, Nat.reduceSub, Nat.reduceLT, reduceCtorEq, not_true_eq_false, not_false_eq_true, Int.reduceEq, Int.reduceLT, Int.reduceLE, Int.reduceNeg, t1, eq_true hi0, eq_true hse, h4]
                    refine hK _ _ ?_; clear hK K
                    refine wx_cond true rfl (fun _ => ?_) (fun h => by cases h)
                    refine wx_seq (wx_region fun K hK => ?_)
                    simp only [evW, evX, evM, evN, evC, far, ↓reduceIte, Nat.reduceEqDiff, Nat.reduceAdd, Nat.reduceLeDiff, Nat.reduceSub, Nat.reduceLT, reduceCtorEq, not_true_eq_false, not_false_eq_true, Int.reduceEq, Int.reduceLT, Int.reduceLE, Int.reduceNeg]
                    refine hK _ _ ?_; clear hK K
                    refine wx_ret ⟨.inr rfl, ?_⟩
                    simp only [evR, evX, evC, evN, ↓reduceIte, Nat.reduceEqDiff, Nat.reduceAdd, Nat.reduceLeDiff, Nat.reduceLT, Nat.reduceSub, reduceCtorEq, far, c110]
                    rw [hR, mayV_eq, show decide (1 ≤ v.kind ∧ v.kind ≤ 7) = false from decide_eq_false (by omega)]; rfl
                  · by_cases h6 : 6 < v.kind
                    · refine wx_region fun K hK => ?_
                      simp only [evW, evX, evM, evN, evC, far, ↓reduceIte, Nat.reduceEqDiff, Nat.reduceAdd, Nat.reduceLeDiff, Nat.reduceSub, Nat.reduceLT, reduceCtorEq, not_true_eq_false, not_false_eq_true, Int.reduceEq, Int.reduceLT, Int.reduceLE, Int.reduceNeg, t1, eq_true hi0, eq_true hse, h4, h6]
                      refine hK _ _ ?_; clear hK K
                      refine wx_cond true rfl (fun _ => ?_) (fun h => by cases h)
                      refine wx_seq (wx_region fun K hK => ?_)
                      simp only [evW, evX, evM, evN, evC, far, ↓reduceIte, Nat.reduceEqDiff, Nat.reduceAdd, Nat.reduceLeDiff, Nat.reduceSub, Nat.reduceLT, reduceCtorEq, not_true_eq_false, not_false_eq_true, Int.reduceEq, Int.reduceLT, Int.reduceLE, Int.reduceNeg]
                      refine hK _ _ ?_; clear hK K
                      refine wx_ret ⟨.inr rfl, ?_⟩
                      simp only [evR, evX, evC, evN, ↓reduceIte, Nat.reduceEqDiff, Nat.reduceAdd, Nat.reduceLeDiff, Nat.reduceLT, Nat.reduceSub, reduceCtorEq, far, c110]
                      rw [hR, mayV_eq, show decide (1 ≤ v.kind ∧ v.kind ≤ 7) = false from decide_eq_false (by omega)]; rfl
                    · have hrow : mayV v = rowOk v.kind v.l := by
                        rw [mayV_eq, hmL, show decide (1 ≤ v.kind ∧ v.kind ≤ 7) = true from decide_eq_true (by omega)]
                        simp [hse, numOk, h1, h2, h7, hi0]
                      refine wx_region fun K hK => ?_
                      simp only [evW, evX, evM, evN, evC, far, ↓reduceIte, Nat.reduceEqDiff, Nat.reduceAdd, Nat.reduceLeDiff, Nat.reduceSub, Nat.reduceLT, reduceCtorEq, not_true_eq_false, not_false_eq_true, Int.reduceEq, Int.reduceLT, Int.reduceLE, Int.reduceNeg, t1, eq_true hi0, eq_true hse, h4, h6]
                      refine hK _ _ ?_; clear hK K
                      refine wx_cond false rfl (fun h => by cases h) (fun _ => wx_skip ?_)
                      refine wx_seq (wx_seq ?_)
                      refine wx_region fun K hK => ?_
                      simp only [evW, evX, evM, evN, evC, far, ↓reduceIte, Nat.reduceEqDiff, Nat.reduceAdd, Nat.reduceLeDiff, Nat.reduceSub, Nat.reduceLT, reduceCtorEq, not_true_eq_false, not_false_eq_true, Int.reduceEq, Int.reduceLT, Int.reduceLE, Int.reduceNeg, t1]
                      refine hK _ _ ?_; clear hK K
                      refine wx_block (wx_loop ?_)
                      simp only [evH, evX, evN, ↓reduceIte, Nat.reduceEqDiff, Nat.reduceAdd, Nat.reduceLeDiff, Nat.reduceLT, Nat.reduceSub, reduceCtorEq, t1]
                      refine mr_loop2 hl (by omega) (by omega) (fun x hx y hy => hcmp x y (hsub x hx) (hsub y hy)) (fun tm ho => ?_) (fun tm hp ho t2 => ?_) v.l.length 0 (by omega) (okFrom_zero (by omega) (by omega) _).symm (fun _ j hj => by omega)
                      · refine wx_seq (wx_region fun K hK => ?_)
                        simp only [evW, evX, evM, evN, evC, far, ↓reduceIte, Nat.reduceEqDiff, Nat.reduceAdd, Nat.reduceLeDiff, Nat.reduceSub, Nat.reduceLT, reduceCtorEq, not_true_eq_false, not_false_eq_true, Int.reduceEq, Int.reduceLT, Int.reduceLE, Int.reduceNeg]
                        refine hK _ _ ?_; clear hK K
                        refine wx_ret ⟨.inr rfl, ?_⟩
                        simp only [evR, evX, evC, evN, ↓reduceIte, Nat.reduceEqDiff, Nat.reduceAdd, Nat.reduceLeDiff, Nat.reduceLT, Nat.reduceSub, reduceCtorEq, far, c110]
                        rw [hR, hrow, ho]
                      · refine ⟨.inr rfl, ?_⟩
                        simp only [evR, evX, evC, evN, ↓reduceIte, Nat.reduceEqDiff, Nat.reduceAdd, Nat.reduceLeDiff, Nat.reduceLT, Nat.reduceSub, reduceCtorEq, far, c110, t2]
                        rw [hR, hrow, ho]
                · refine wx_region fun K hK => ?_
                  simp only [evW, evX, evM, evN, evC, far, ↓reduceIte, Nat.reduceEqDiff, Nat.reduceAdd, Nat.reduceLeDiff, Nat.reduceSub, Nat.reduceLT, reduceCtorEq, not_true_eq_false, not_false_eq_true, Int.reduceEq, Int.reduceLT, Int.reduceLE, Int.reduceNeg, t1, eq_true hi0, hse]
                  refine hK _ _ ?_; clear hK K
                  refine wx_cond true rfl (fun _ => ?_) (fun h => by cases h)
                  refine wx_seq (wx_region fun K hK => ?_)
                  simp only [evW, evX, evM, evN, evC, far, ↓reduceIte, Nat.reduceEqDiff, Nat.reduceAdd, Nat.reduceLeDiff, Nat.reduceSub, Nat.reduceLT, reduceCtorEq, not_true_eq_false, not_false_eq_true, Int.reduceEq, Int.reduceLT, Int.reduceLE, Int.reduceNeg]
                  refine hK _ _ ?_; clear hK K
                  refine wx_ret ⟨.inr rfl, ?_⟩
                  simp only [evR, evX, evC, evN, ↓reduceIte, Nat.reduceEqDiff, Nat.reduceAdd, Nat.reduceLeDiff, Nat.reduceLT, Nat.reduceSub, reduceCtorEq, far, c110]
                  rw [hR, mayV_eq]; simp [hse, h3]
              · refine wx_region fun K hK => ?_
                simp only [evW, evX, evM, evN, evC, far, ↓reduceIte, Nat.reduceEqDiff, Nat.reduceAdd, Nat.reduceLeDiff, Nat.reduceSub, Nat.reduceLT, reduceCtorEq, not_true_eq_false, not_false_eq_true, Int.reduceEq, Int.reduceLT, Int.reduceLE, Int.reduceNeg, t1, hi0]
                refine hK _ _ ?_; clear hK K
                refine wx_cond true rfl (fun _ => ?_) (fun h => by cases h)
                refine wx_seq (wx_region fun K hK => ?_)
                simp only [evW, evX, evM, evN, evC, far, ↓reduceIte, Nat.reduceEqDiff, Nat.reduceAdd, Nat.reduceLeDiff, Nat.reduceSub, Nat.reduceLT, reduceCtorEq, not_true_eq_false, not_false_eq_true, Int.reduceEq, Int.reduceLT, Int.reduceLE, Int.reduceNeg]
                refine hK _ _ ?_; clear hK K
                refine wx_ret ⟨.inr rfl, ?_⟩
                simp only [evR, evX, evC, evN, ↓reduceIte, Nat.reduceEqDiff, Nat.reduceAdd, Nat.reduceLeDiff, Nat.reduceLT, Nat.reduceSub, reduceCtorEq, far, c110]
                rw [hR, mayV_eq]; simp [numOk, h1, h2, h7, hi0]
    · refine ⟨.inr rfl, ?_⟩
      simp only [evR, evX, evC, evN, ↓reduceIte, Nat.reduceEqDiff, Nat.reduceAdd, Nat.reduceLeDiff, Nat.reduceLT, Nat.reduceSub, reduceCtorEq, far, c110, t2]
      have hmL : mayL v.l = false := by rw [mayL_any, ← hbad, hany]; rfl
      rw [hR, mayV_eq, hmL]; simp
end Ab
