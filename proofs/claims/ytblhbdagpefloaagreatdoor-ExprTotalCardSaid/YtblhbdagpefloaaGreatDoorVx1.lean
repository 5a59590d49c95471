/-
 Choices: Num.
-/
import Derived.Test.YtblhbdagpefloaaGreatDoorVx0
namespace Ab.Vx
open Go
set_option linter.unusedVariables false
set_option linter.unusedSimpArgs false
set_option maxRecDepth 100000
variable {E : Nat → Option Fn}
theorem num_ok (h123 : E 123 = some (.code c123)) (l : List UInt8) (n : Nat) (hl : l.length ≤ 1000) (hn : n ≤ l.length) (m : Int) (hm : 0 < m) :
  ∃ (k : Int) (n' : Nat), lcall E 123 [.ptr 0 0, .d (.i .i64 m)] [pbox l n] = some (.d (.i .i64 k), [pbox l n']) ∧ 0 ≤ k ∧ k < m ∧ n' ≤ l.length := by
 by_cases h : (l.length : Int) ≤ n
 ·refine ⟨0, n, call_wx h123 ?_, by omega, hm, hn⟩
  refine wx_seq (wx_region fun K hK => ?_)
  simp only [evW, evX, evM, evN, Nat.reduceAdd]
  refine hK _ _ ?_; clear hK K
  refine wx_seq (wx_seq (wx_regionT fun K hK => ?_))
  simp only [evW, evX, evM, evN, ↓reduceIte, Nat.reduceEqDiff, byteRows_length]
  refine hK _ _ (by rfl) ?_; clear hK K
  refine wx_if rfl (fun _ => ?_) (fun h' => absurd h h')
  refine wx_seq (wx_region fun K hK => ?_)
  simp only [evW, evX, evM, evN]
  refine hK _ _ ?_; clear hK K
  refine wx_ret ⟨.inr rfl, ?_⟩
  simp only [c123, evR, evX, evC, evN, ↓reduceIte, far]
 ·have hlt : n < l.length := by omega
  have w1 : IntKind.i64.wrap ((n : Int) + 1) = ((n + 1 : Nat) : Int) := by rw [i64_in (by omega) (by omega)]; omega
  have w2 : IntKind.i64.wrap (((n + 1 : Nat) : Int) - 1) = (n : Int) := by rw [i64_in (by omega) (by omega)]; omega
  have hc : (l[n].toNat : Int) < 256 := by have := l[n].toNat_lt; omega
  have w3 : IntKind.i64.wrap (l[n].toNat : Int) = (l[n].toNat : Int) := i64_in (by omega) (by omega)
  have hg : (byteRow l)[n]? = some [.i .u8 l[n].toNat] := by rw [byteRows_get, List.getElem?_eq_getElem hlt]; rfl
  have hm0 : ¬ m = 0 := by omega
  have h0 : (0 : Int) ≤ n := by omega
  refine ⟨(l[n].toNat : Int).tmod m, n + 1, call_wx h123 ?_, Int.tmod_nonneg _ (by omega), Int.tmod_lt_of_pos _ hm, by omega⟩
  refine wx_seq (wx_region fun K hK => ?_)
  simp only [evW, evX, evM, evN, Nat.reduceAdd]
  refine hK _ _ ?_; clear hK K
  refine wx_seq (wx_seq (wx_regionT fun K hK => ?_))
  simp only [evW, evX, evM, evN, ↓reduceIte, Nat.reduceEqDiff, byteRows_length]
  refine hK _ _ (by rfl) ?_; clear hK K
  refine wx_if rfl (fun h' => absurd h' h) (fun _ => ?_)
  refine wx_skip ?_
  refine wx_seq (wx_region fun K hK => ?_)
  simp only [evW, evX, evM, evN, ↓reduceIte, Nat.reduceEqDiff, Nat.reduceAdd, w1, Nat.reduceLeDiff]
  refine hK _ _ ?_; clear hK K
  refine wx_seq (wx_regionT fun K hK => ?_)
  simp only [evW, evX, evM, evN, ↓reduceIte, Nat.reduceEqDiff, w2, h0, Int.toNat_natCast, hg, w3, hm0]
  refine hK _ _ (by rfl) ?_; clear hK K
  refine wx_ret ⟨.inr rfl, ?_⟩
  simp only [c123, evR, evX, evC, evN, ↓reduceIte, far]
end Ab.Vx
