/-
 Rows of values: the document's Find and Ins.
-/
import Derived.Test.YtblhbdagpefloaaGreatDoorVx3
namespace Ab.Vx
open Go
set_option linter.unusedVariables false
set_option linter.unusedSimpArgs false
set_option maxRecDepth 100000
variable {E : Nat → Option Fn}
def keyV (v : GVal) : List UInt8 := match v.l with | [] => [] | x :: _ => x.s
theorem key_ok {k : Nat} {n : CFn} (hk : E k = some (.code n)) (hn : n = c137) (v : GVal) : lcall E k [v.arg] [] = some (.d (.s (keyV v)), []) := by
 subst hn
 refine call_wx hk ?_
 refine wx_seq (wx_region fun K hK => ?_)
 simp only [evW, evX, evM, evN, ↓reduceIte]
 refine hK _ _ ?_; clear hK K
 refine wx_seq (wx_seq ?_)
 cases hl : v.l with
 | nil =>
  refine wx_region fun K hK => ?_
  simp only [evW, evX, evM, evN, ↓reduceIte, Nat.reduceEqDiff, gvalRows]
  refine hK _ _ ?_; clear hK K
  refine wx_cond true rfl (fun _ => ?_) (fun h => by cases h)
  refine wx_seq (wx_region fun K hK => ?_)
  simp only [evW, evX, evM, evN]
  refine hK _ _ ?_; clear hK K
  refine wx_ret ⟨.inr rfl, ?_⟩
  simp only [evR, evX, evC, evN, ↓reduceIte, far, c137, keyV, hl]
 | cons x r =>
  have hne : ¬ ((r.length : Int) + 1 = 0) := by omega
  refine wx_region fun K hK => ?_
  simp only [evW, evX, evM, evN, ↓reduceIte, Nat.reduceEqDiff, gvalRows, gvalRows_length, Int.natCast_add, Int.cast_ofNat_Int, hne]
  refine hK _ _ ?_; clear hK K
  refine wx_cond false rfl (fun h => by cases h) (fun _ => wx_skip ?_)
  refine wx_seq (wx_region fun K hK => ?_)
  simp only [evW, evX, evM, evN, ↓reduceIte, Nat.reduceEqDiff, Int.toNat_zero, row_eq, Std.le_refl]
  refine hK _ _ ?_; clear hK K
  refine wx_ret ⟨.inr rfl, ?_⟩
  simp only [evR, evX, evC, evN, ↓reduceIte, far, c137, keyV, hl]
theorem gvalRows_append (a b : List GVal) : gvalRows (a ++ b) = gvalRows a ++ gvalRows b := by simp [gvalRows_eq]
theorem gvalRows_take (a : List GVal) (n : Nat) : (gvalRows a).take n = gvalRows (a.take n) := by simp [gvalRows_eq, List.map_take]
theorem gvalRows_drop (a : List GVal) (n : Nat) : (gvalRows a).drop n = gvalRows (a.drop n) := by simp [gvalRows_eq, List.map_drop]
def posK (k : List UInt8) : List GVal → Nat
 | [] => 0
 | x :: r => if bytesLess (keyV x) k then posK k r + 1 else 0
def hasK (k : List UInt8) (l : List GVal) : Bool := match l[posK k l]? with
 | some x => decide (0 < x.l.length) && decide (keyV x = k)
 | none => false
theorem posK_le (k : List UInt8) : ∀ (l : List GVal), posK k l ≤ l.length
 | [] => Nat.le_refl _
 | x :: r => by
  simp only [posK]
  split
  ·simpa using posK_le k r
  ·exact Nat.zero_le _
def posV (v : GVal) : List GVal → Nat
 | [] => 0
 | x :: r => if cmpV x v < 0 then posV v r + 1 else 0
theorem posV_le (v : GVal) : ∀ (l : List GVal), posV v l ≤ l.length
 | [] => Nat.le_refl _
 | x :: r => by
  simp only [posV]
  split
  ·simpa using posV_le v r
  ·exact Nat.zero_le _
def insV (l : List GVal) (v : GVal) : List GVal := match l[posV v l]? with
 | some x => if cmpV x v = 0 then l else l.take (posV v l) ++ [v] ++ l.drop (posV v l)
 | none => l.take (posV v l) ++ [v] ++ l.drop (posV v l)
theorem roomy_in {n : Nat} (h : n ≤ 2000) : roomy n 56 = true := by unfold roomy; exact decide_eq_true (by omega)
end Ab.Vx
