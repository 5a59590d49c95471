/-
 Values stand in one row: plain laws of the order.
-/
import Derived.Test.YtblhbdagpefloaaGreatDoorVx4
namespace Ab.Vx
open Go
set_option linter.unusedVariables false
theorem valInd {P : GVal → Prop} (h : ∀ v : GVal, (∀ x ∈ v.l, P x) → P v) : ∀ v, P v := by
 have : ∀ (n : Nat) (v : GVal), sizeOf v < n → P v := by
  intro n
  induction n with
  | zero => intro v hv; omega
  | succ n ih =>
   intro v hv
   refine h v fun x hx => ih x ?_
   cases v with
   | mk k i s l =>
    have := List.sizeOf_lt_of_mem hx
    simp only [GVal.l] at this
    simp only [GVal.mk.sizeOf_spec] at hv
    omega
 exact fun v => this _ v (Nat.lt_succ_self _)
theorem bl_irrefl : ∀ (x : List UInt8), bytesLess x x = false
 | [] => rfl
 | a :: x => by simp [bytesLess, bl_irrefl x]
theorem bl_total : ∀ (x y : List UInt8), bytesLess x y = true ∨ x = y ∨ bytesLess y x = true
 | [], [] => .inr (.inl rfl)
 | [], _ :: _ => .inl rfl
 | _ :: _, [] => .inr (.inr rfl)
 | a :: x, b :: y => by
  simp only [bytesLess, Bool.or_eq_true, Bool.and_eq_true, decide_eq_true_eq, beq_iff_eq]
  rcases UInt8.lt_or_lt_of_ne (a := a) (b := b) |> fun f => (Classical.em (a = b)).elim (fun e => Or.inl e) (fun e => Or.inr (f e)) with e | h | h
  ·subst e
   rcases bl_total x y with h | h | h
   ·exact .inl (.inr ⟨rfl, h⟩)
   ·exact .inr (.inl (by rw [h]))
   ·exact .inr (.inr (.inr ⟨rfl, h⟩))
  ·exact .inl (.inl h)
  ·exact .inr (.inr (.inl h))
theorem bl_trans : ∀ {x y z : List UInt8}, bytesLess x y = true → bytesLess y z = true → bytesLess x z = true
 | x, y, [], h, k => by cases y <;> simp [bytesLess] at k
 | [], y, c :: z, h, k => rfl
 | a :: x, [], c :: z, h, k => by simp [bytesLess] at h
 | a :: x, b :: y, c :: z, h, k => by
  simp only [bytesLess, Bool.or_eq_true, Bool.and_eq_true, decide_eq_true_eq, beq_iff_eq] at *
  rcases h with h | ⟨rfl, h⟩
  ·rcases k with k | ⟨rfl, k⟩
   ·exact .inl (UInt8.lt_trans h k)
   ·exact .inl h
  ·rcases k with k | ⟨rfl, k⟩
   ·exact .inl k
   ·exact .inr ⟨rfl, bl_trans h k⟩
theorem bl_asymm {x y : List UInt8} (h : bytesLess x y = true) : bytesLess y x = false := by
 cases k : bytesLess y x with
 | false => rfl
 | true => have := bl_trans h k; rw [bl_irrefl] at this; cases this
theorem sgn_cases (b : Bool) : sgn b = 1 ∧ b = false ∨ sgn b = -1 ∧ b = true := by cases b <;> simp [sgn]
theorem cmpL_zero : ∀ (l m : List GVal), (∀ x ∈ l, ∀ y, cmpV x y = 0 → x = y) → cmpL l m = 0 → l = m
 | [], [], _, _ => rfl
 | [], _ :: _, _, h => by simp [cmpL] at h
 | _ :: _, [], _, h => by simp [cmpL] at h
 | x :: r, y :: t, hx, h => by
  simp only [cmpL] at h
  by_cases e : cmpV x y = 0
  ·rw [if_pos e] at h
   rw [hx x (by simp) y e, cmpL_zero r t (fun z hz => hx z (by simp [hz])) h]
  ·rw [if_neg e] at h; exact absurd h e
theorem cmp_zero : ∀ (a b : GVal), cmpV a b = 0 → a = b := by
 intro a
 induction a using valInd with
 | _ a ih =>
  intro b h
  rw [cmpV_eq] at h
  by_cases e1 : a.kind = b.kind
  ·rw [if_pos e1] at h
   by_cases e2 : a.i = b.i
   ·rw [if_pos e2] at h
    by_cases e3 : a.s = b.s
    ·rw [if_pos e3] at h
     have := cmpL_zero _ _ ih h
     rw [← GVal.eta a, ← GVal.eta b, e1, e2, e3, this]
    ·rw [if_neg e3] at h; rcases sgn_cases (bytesLess a.s b.s) with ⟨k, _⟩ | ⟨k, _⟩ <;> rw [k] at h <;> simp at h
   ·rw [if_neg e2] at h; rcases sgn_cases (decide (a.i < b.i)) with ⟨k, _⟩ | ⟨k, _⟩ <;> rw [k] at h <;> simp at h
  ·rw [if_neg e1] at h; rcases sgn_cases (decide (a.kind < b.kind)) with ⟨k, _⟩ | ⟨k, _⟩ <;> rw [k] at h <;> simp at h
theorem sgn_neg {p q : Bool} (h : q = !p) : sgn q = - sgn p := by subst h; cases p <;> rfl
theorem cmpL_neg : ∀ (l m : List GVal), (∀ x ∈ l, ∀ y, cmpV y x = - cmpV x y) → cmpL m l = - cmpL l m
 | [], [], _ => by simp [cmpL]
 | [], _ :: _, _ => by simp [cmpL]
 | _ :: _, [], _ => by simp [cmpL]
 | x :: r, y :: t, hx => by
  simp only [cmpL]
  rw [hx x (by simp) y]
  by_cases e : cmpV x y = 0
  ·rw [if_pos e, if_pos (by omega)]; exact cmpL_neg r t fun z hz => hx z (by simp [hz])
  ·rw [if_neg e, if_neg (by omega)]
theorem cmp_neg : ∀ (a b : GVal), cmpV b a = - cmpV a b := by
 intro a
 induction a using valInd with
 | _ a ih =>
  intro b
  rw [cmpV_eq a b, cmpV_eq b a]
  by_cases e1 : a.kind = b.kind
  ·rw [if_pos e1, if_pos e1.symm]
   by_cases e2 : a.i = b.i
   ·rw [if_pos e2, if_pos e2.symm]
    by_cases e3 : a.s = b.s
    ·rw [if_pos e3, if_pos e3.symm]; exact cmpL_neg _ _ ih
    ·rw [if_neg e3, if_neg (fun h => e3 h.symm)]
     refine sgn_neg ?_
     rcases bl_total a.s b.s with h | h | h
     ·rw [h, bl_asymm h]; rfl
     ·exact absurd h e3
     ·rw [h, bl_asymm h]; rfl
   ·rw [if_neg e2, if_neg (fun h => e2 h.symm)]
    refine sgn_neg ?_
    by_cases h : a.i < b.i
    ·simp [h]; omega
    ·simp [h]; omega
  ·rw [if_neg e1, if_neg (fun h => e1 h.symm)]
   refine sgn_neg ?_
   by_cases h : a.kind < b.kind
   ·simp [h]; omega
   ·simp [h]; omega
theorem cmpL_trans : ∀ (l m n : List GVal), (∀ x ∈ l, ∀ y z, cmpV x y < 0 → cmpV y z < 0 → cmpV x z < 0) → cmpL l m < 0 → cmpL m n < 0 → cmpL l n < 0
 | [], [], n, _, h, k => k
 | [], _ :: _, [], _, h, k => by simp [cmpL] at k
 | [], _ :: _, _ :: _, _, h, k => by simp [cmpL]
 | _ :: _, [], n, _, h, k => by simp [cmpL] at h
 | _ :: _, _ :: _, [], _, h, k => by simp [cmpL] at k
 | x :: r, y :: t, z :: u, hx, h, k => by
  simp only [cmpL] at *
  by_cases e1 : cmpV x y = 0
  ·rw [if_pos e1] at h
   have := cmp_zero _ _ e1
   subst this
   by_cases e2 : cmpV x z = 0
   ·rw [if_pos e2] at k ⊢
    exact cmpL_trans r t u (fun w hw => hx w (by simp [hw])) h k
   ·rw [if_neg e2] at k ⊢; exact k
  ·rw [if_neg e1] at h
   by_cases e2 : cmpV y z = 0
   ·have := cmp_zero _ _ e2
    subst this
    rw [if_neg e1]; exact h
   ·rw [if_neg e2] at k
    have := hx x (by simp) y z h k
    rw [if_neg (by omega)]; exact this
theorem cmp_trans : ∀ (a b c : GVal), cmpV a b < 0 → cmpV b c < 0 → cmpV a c < 0 := by
 intro a
 induction a using valInd with
 | _ a ih =>
  intro b c h k
  rw [cmpV_eq] at *
  by_cases e1 : a.kind = b.kind
  ·rw [if_pos e1] at h
   rw [e1]
   by_cases f1 : b.kind = c.kind
   ·rw [if_pos f1] at k ⊢
    by_cases e2 : a.i = b.i
    ·rw [if_pos e2] at h
     rw [e2]
     by_cases f2 : b.i = c.i
     ·rw [if_pos f2] at k ⊢
      by_cases e3 : a.s = b.s
      ·rw [if_pos e3] at h
       rw [e3]
       by_cases f3 : b.s = c.s
       ·rw [if_pos f3] at k ⊢
        exact cmpL_trans _ _ _ ih h k
       ·rw [if_neg f3] at k ⊢; exact k
      ·rw [if_neg e3] at h
       have h' : bytesLess a.s b.s = true := by rcases sgn_cases (bytesLess a.s b.s) with ⟨q, _⟩ | ⟨_, q⟩; (rw [q] at h; omega); exact q
       by_cases f3 : b.s = c.s
       ·rw [← f3, if_neg e3]; exact h
       ·rw [if_neg f3] at k
        have k' : bytesLess b.s c.s = true := by rcases sgn_cases (bytesLess b.s c.s) with ⟨q, _⟩ | ⟨_, q⟩; (rw [q] at k; omega); exact q
        have := bl_trans h' k'
        rw [if_neg (fun e => by rw [e, bl_irrefl] at this; cases this), this]; decide
     ·rw [if_neg f2] at k ⊢; exact k
    ·rw [if_neg e2] at h
     have h' : a.i < b.i := by rcases sgn_cases (decide (a.i < b.i)) with ⟨q, _⟩ | ⟨_, q⟩; (rw [q] at h; omega); exact of_decide_eq_true q
     have k' : b.i ≤ c.i := by
      by_cases f2 : b.i = c.i
      ·omega
      ·rw [if_neg f2] at k
       rcases sgn_cases (decide (b.i < c.i)) with ⟨q, _⟩ | ⟨_, q⟩
       ·rw [q] at k; omega
       ·have := of_decide_eq_true q; omega
     rw [if_neg (by omega), show decide (a.i < c.i) = true from decide_eq_true (by omega)]; decide
   ·rw [if_neg f1] at k ⊢; exact k
  ·rw [if_neg e1] at h
   have h' : a.kind < b.kind := by rcases sgn_cases (decide (a.kind < b.kind)) with ⟨q, _⟩ | ⟨_, q⟩; (rw [q] at h; omega); exact of_decide_eq_true q
   have k' : b.kind ≤ c.kind := by
    by_cases f1 : b.kind = c.kind
    ·omega
    ·rw [if_neg f1] at k
     rcases sgn_cases (decide (b.kind < c.kind)) with ⟨q, _⟩ | ⟨_, q⟩
     ·rw [q] at k; omega
     ·have := of_decide_eq_true q; omega
   rw [if_neg (by omega), show decide (a.kind < c.kind) = true from decide_eq_true (by omega)]; decide
end Ab.Vx
