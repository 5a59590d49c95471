/-
 Which values may be; rows that rise.
-/
import Derived.Test.YtblhbdagpefloaaGreatDoorVx5
namespace Ab.Vx
open Go
set_option linter.unusedVariables false
def chainB (p : GVal → GVal → Bool) : List GVal → Bool
 | [] => true
 | [_] => true
 | x :: y :: r => p x y && chainB p (y :: r)
def pairV (v : GVal) : Bool := decide (v.kind = 4) && (match v.l with | [x, _] => decide (x.kind = 3) | _ => false)
def ltV (a b : GVal) : Bool := decide (cmpV a b < 0)
def ltK (a b : GVal) : Bool := bytesLess (keyV a) (keyV b)
def rowOk (k : Int) (l : List GVal) : Bool := if k = 4 then true else if k = 5 then chainB ltV l else if k = 6 then l.all pairV && chainB ltK l else l.isEmpty
def numOk (k i : Int) : Bool := if k = 1 then true else if k = 2 then decide (i = 0 ∨ i = 1) else if k = 7 then decide (1 ≤ i ∧ i ≤ 13) else decide (i = 0)
mutual
def mayV : GVal → Bool
 | .mk k i s l => decide (1 ≤ k ∧ k ≤ 7) && numOk k i && (decide (k = 3) || s.isEmpty) && rowOk k l && mayL l
def mayL : List GVal → Bool
 | [] => true
 | x :: r => !decide (x.kind = 7) && mayV x && mayL r
end
theorem mayL_all : ∀ (l : List GVal), mayL l = l.all fun x => !decide (x.kind = 7) && mayV x
 | [] => rfl
 | x :: r => by simp only [mayL, List.all_cons, mayL_all r]
theorem mayV_eq (v : GVal) : mayV v = (decide (1 ≤ v.kind ∧ v.kind ≤ 7) && numOk v.kind v.i && (decide (v.kind = 3) || v.s.isEmpty) && rowOk v.kind v.l && mayL v.l) := by cases v; simp only [mayV]; rfl
theorem chain_tail {p : GVal → GVal → Bool} {x : GVal} {l : List GVal} (h : chainB p (x :: l) = true) : chainB p l = true := by
 cases l with
 | nil => rfl
 | cons y r => simp only [chainB, Bool.and_eq_true] at h; exact h.2
theorem chain_cons {p : GVal → GVal → Bool} {x : GVal} {l : List GVal} (h : chainB p l = true) (hx : ∀ y ∈ l.head?, p x y = true) : chainB p (x :: l) = true := by
 cases l with
 | nil => rfl
 | cons y r => simp only [chainB, Bool.and_eq_true]; exact ⟨hx y (by simp), h⟩
theorem chain_all {p : GVal → GVal → Bool} (ht : ∀ a b c, p a b = true → p b c = true → p a c = true) {x : GVal} : ∀ {l : List GVal}, chainB p (x :: l) = true → ∀ y ∈ l, p x y = true
 | [], _, y, hy => by cases hy
 | z :: r, h, y, hy => by
  simp only [chainB, Bool.and_eq_true] at h
  rcases List.mem_cons.1 hy with rfl | hy
  ·exact h.1
  ·exact ht _ _ _ h.1 (chain_all ht h.2 y hy)
theorem ltV_trans (a b c : GVal) (h : ltV a b = true) (k : ltV b c = true) : ltV a c = true := by
 simp only [ltV, decide_eq_true_eq] at *; exact cmp_trans a b c h k
theorem ltK_trans (a b c : GVal) (h : ltK a b = true) (k : ltK b c = true) : ltK a c = true := bl_trans h k
theorem chain_ins {p : GVal → GVal → Bool} {v : GVal} {pos : List GVal → Nat} (h0 : pos [] = 0) (h1 : ∀ x r, pos (x :: r) = if p x v = true then pos r + 1 else 0) :
  ∀ (l : List GVal), chainB p l = true → (∀ x, l[pos l]? = some x → p v x = true) → chainB p (l.take (pos l) ++ [v] ++ l.drop (pos l)) = true
 | [], _, _ => by rw [h0]; rfl
 | x :: r, h, hv => by
  rw [h1] at *
  by_cases e : p x v = true
  ·rw [if_pos e] at *
   simp only [List.take_succ_cons, List.drop_succ_cons, List.cons_append]
   have ih := chain_ins h0 h1 r (chain_tail h) (fun y hy => hv y (by simpa using hy))
   refine chain_cons ih fun y hy => ?_
   cases hr : pos r with
   | zero =>
    rw [hr] at hy
    simp only [List.take_zero, List.nil_append, List.cons_append, List.head?_cons, Option.mem_def, Option.some.injEq] at hy
    rw [← hy]; exact e
   | succ n =>
    cases r with
    | nil => rw [h0] at hr; cases hr
    | cons z t =>
     rw [hr] at hy
     simp only [List.take_succ_cons, List.cons_append, List.head?_cons, Option.mem_def, Option.some.injEq] at hy
     rw [← hy]
     simp only [chainB, Bool.and_eq_true] at h
     exact h.1
  ·rw [if_neg e] at *
   simp only [List.take_zero, List.nil_append, List.drop_zero, List.cons_append]
   exact chain_cons h fun y hy => hv y (by simpa using hy)
theorem insV_chain {l : List GVal} {v : GVal} (h : chainB ltV l = true) : chainB ltV (insV l v) = true := by
 have key : (∀ x, l[posV v l]? = some x → cmpV x v ≠ 0) → chainB ltV (l.take (posV v l) ++ [v] ++ l.drop (posV v l)) = true := fun hne => by
  refine chain_ins (pos := posV v) rfl (fun x r => ?_) l h (fun x hx => ?_)
  ·simp only [posV, ltV, decide_eq_true_eq]
  ·have : ∀ (l : List GVal) x, l[posV v l]? = some x → ¬ cmpV x v < 0 := by
    intro l
    induction l with
    | nil => intro x hx; simp at hx
    | cons y r ih =>
     intro x hx
     simp only [posV] at hx
     split at hx
     ·exact ih x (by simpa using hx)
     ·simp at hx; subst hx; assumption
   have h1 := this l x hx
   have h2 := hne x hx
   have := cmp_neg x v
   simp only [ltV, decide_eq_true_eq]
   omega
 unfold insV
 cases hx : l[posV v l]? with
 | none => exact key (fun x hx' => by rw [hx] at hx'; cases hx')
 | some x =>
  simp only
  split
  ·exact h
  ·rename_i hne
   exact key (fun y hy => by rw [hx] at hy; cases hy; exact hne)
theorem insV_mem {l : List GVal} {v x : GVal} (h : x ∈ insV l v) : x ∈ l ∨ x = v := by
 have key : x ∈ l.take (posV v l) ++ [v] ++ l.drop (posV v l) → x ∈ l ∨ x = v := fun h => by
  simp only [List.mem_append, List.mem_singleton] at h
  rcases h with (h | h) | h
  ·exact .inl (List.mem_of_mem_take h)
  ·exact .inr h
  ·exact .inl (List.mem_of_mem_drop h)
 unfold insV at h
 split at h
 ·split at h
  ·exact .inl h
  ·exact key h
 ·exact key h
theorem small_mk {k i : Int} {s : List UInt8} {l : List GVal} (h : l.length ≤ 1000) (hs : ∀ x ∈ l, Small x) : Small (.mk k i s l) := .mk h hs
end Ab.Vx
