/-
 What an expression asks for: attributes, texts of tokens.
-/
import Derived.Test.YtblhbdagpefloaaGreatDoorX6
namespace Ab.Vx
open Go
set_option linter.unusedVariables false
set_option linter.unusedSimpArgs false
set_option maxRecDepth 100000
variable {E : Nat → Option Fn}
def valsRows (vs : List (List GVal)) : List (List D) := vs.map fun l => [.l 4 (gvalRows l)]
def atD {α : Type} (l : List α) (i : Int) (z : α) : α := if 0 ≤ i then (l[i.toNat]?).getD z else z
def inB {α : Type} (l : List α) (i : Int) : Bool := decide (0 ≤ i) && decide (i < l.length)
abbrev rdV (vs : List (List GVal)) (ts : List (List UInt8)) : V := .agg [.d (.l 1 (valsRows vs)), .d (.l 1 (ts.map strRow))]
def zeroV : GVal := .mk 0 0 [] []
theorem atD_in {α : Type} {l : List α} {i : Int} {z : α} (h0 : 0 ≤ i) (h1 : i < l.length) : l[i.toNat]? = some (atD l i z) := by
 unfold atD
 rw [if_pos h0, List.getElem?_eq_getElem (by omega)]; rfl
theorem atD_out {α : Type} {l : List α} {i : Int} {z : α} (h : ¬ (0 ≤ i ∧ i < l.length)) : atD l i z = z := by
 unfold atD
 by_cases h0 : 0 ≤ i
 ·rw [if_pos h0, List.getElem?_eq_none (by omega)]; rfl
 ·rw [if_neg h0]
theorem at292_ok (A : XE E) (vs : List (List GVal)) (i : Int) : lcall E 292 [.d (.l 1 (valsRows vs)), .d (.i .i64 i)] [] = some (.tup [.d (.l 4 (gvalRows (atD vs i []))), .d (.b (inB vs i))], []) := by
 have hl : (valsRows vs).length = vs.length := by simp [valsRows]
 refine call_q A.e292 ?_
 by_cases h0 : i < 0
 ·rw [atD_out (by omega), show inB vs i = false by unfold inB; rw [decide_eq_false (by omega), Bool.false_and]]
  simp only [evAll, ↓reduceIte, Nat.reduceEqDiff, Nat.reduceAdd, reduceCtorEq, c292, eq_true h0]
  rfl
 ·have h0' : 0 ≤ i := by omega
  by_cases h1 : i ≥ (vs.length : Int)
  ·rw [atD_out (by omega), show inB vs i = false by unfold inB; rw [decide_eq_false (p := i < _) (by omega), Bool.and_false]]
   simp only [evAll, ↓reduceIte, Nat.reduceEqDiff, Nat.reduceAdd, reduceCtorEq, c292, h0, hl, eq_true h1]
   rfl
  ·have g := atD_in (l := vs) (z := []) h0' (by omega)
   have gr : (valsRows vs)[i.toNat]? = some [.l 4 (gvalRows (atD vs i []))] := by unfold valsRows; rw [List.getElem?_map, g]; rfl
   rw [show inB vs i = true by unfold inB; rw [decide_eq_true h0', decide_eq_true (by omega), Bool.true_and]]
   simp only [evAll, ↓reduceIte, Nat.reduceEqDiff, Nat.reduceAdd, reduceCtorEq, c292, h0, hl, h1, eq_true h0', gr]
theorem at293_ok (A : XE E) (l : List GVal) (i : Int) : lcall E 293 [.d (.l 4 (gvalRows l)), .d (.i .i64 i)] [] = some (.tup [(atD l i zeroV).arg, .d (.b (inB l i))], []) := by
 have hl := gvalRows_length l
 refine call_q A.e293 ?_
 by_cases h0 : i < 0
 ·rw [atD_out (by omega), show inB l i = false by unfold inB; rw [decide_eq_false (by omega), Bool.false_and]]
  simp only [evAll, ↓reduceIte, Nat.reduceEqDiff, Nat.reduceAdd, Nat.reduceLeDiff, reduceCtorEq, c293, eq_true h0]
  rfl
 ·have h0' : 0 ≤ i := by omega
  by_cases h1 : i ≥ (l.length : Int)
  ·rw [atD_out (by omega), show inB l i = false by unfold inB; rw [decide_eq_false (p := i < _) (by omega), Bool.and_false]]
   simp only [evAll, ↓reduceIte, Nat.reduceEqDiff, Nat.reduceAdd, Nat.reduceLeDiff, reduceCtorEq, c293, h0, hl, eq_true h1]
   rfl
  ·have g := atD_in (l := l) (z := zeroV) h0' (by omega)
   have gr : (gvalRows l)[i.toNat]? = some (atD l i zeroV).row := by rw [gvalRows_get, g]; rfl
   rw [row_eq] at gr
   rw [show inB l i = true by unfold inB; rw [decide_eq_true h0', decide_eq_true (by omega), Bool.true_and]]
   simp only [evAll, ↓reduceIte, Nat.reduceEqDiff, Nat.reduceAdd, Nat.reduceLeDiff, reduceCtorEq, c293, h0, hl, h1, eq_true h0', gr]
theorem at294_ok (A : XE E) (l : List (List UInt8)) (i : Int) : lcall E 294 [.d (.l 1 (l.map strRow)), .d (.i .i64 i)] [] = some (.tup [.d (.s (atD l i [])), .d (.b (inB l i))], []) := by
 have hl : (l.map strRow).length = l.length := by simp
 refine call_q A.e294 ?_
 by_cases h0 : i < 0
 ·rw [atD_out (by omega), show inB l i = false by unfold inB; rw [decide_eq_false (by omega), Bool.false_and]]
  simp only [evAll, ↓reduceIte, Nat.reduceEqDiff, Nat.reduceAdd, reduceCtorEq, c294, eq_true h0]
 ·have h0' : 0 ≤ i := by omega
  by_cases h1 : i ≥ (l.length : Int)
  ·rw [atD_out (by omega), show inB l i = false by unfold inB; rw [decide_eq_false (p := i < _) (by omega), Bool.and_false]]
   simp only [evAll, ↓reduceIte, Nat.reduceEqDiff, Nat.reduceAdd, reduceCtorEq, c294, h0, hl, eq_true h1]
  ·have g := atD_in (l := l) (z := []) h0' (by omega)
   have gr : (l.map strRow)[i.toNat]? = some [.s (atD l i [])] := by rw [List.getElem?_map, g]; rfl
   rw [show inB l i = true by unfold inB; rw [decide_eq_true h0', decide_eq_true (by omega), Bool.true_and]]
   simp only [evAll, ↓reduceIte, Nat.reduceEqDiff, Nat.reduceAdd, reduceCtorEq, c294, h0, hl, h1, eq_true h0', gr]
def refG (vs : List (List GVal)) (occ attr : Int) : GVal := if inB (atD vs occ []) attr then atD (atD vs occ []) attr zeroV else badG 7
theorem ref_ok (A : XE E) (vs : List (List GVal)) (ts : List (List UInt8)) (e : Exp) : lcall E 284 [rdV vs ts, e.arg] [] = some ((refG vs e.occ e.attr).arg, []) := by
 have a1 := at292_ok A vs e.occ
 have a2 := at293_ok A (atD vs e.occ []) e.attr
 have b7 := bad_ok A 7
 refine call_q A.e284 ?_
 unfold refG
 cases h : inB (atD vs e.occ []) e.attr with
 | true =>
  rw [h] at a2
  rw [if_pos rfl]
  simp only [evAll, ↓reduceIte, Nat.reduceEqDiff, Nat.reduceAdd, Nat.reduceLeDiff, reduceCtorEq, c284, a1, a2]
 | false =>
  rw [h] at a2
  rw [if_neg (by simp)]
  simp only [evAll, ↓reduceIte, Nat.reduceEqDiff, Nat.reduceAdd, Nat.reduceLeDiff, reduceCtorEq, c284, a1, a2, b7]
def digs : List UInt8 := [48, 49, 50, 51, 52, 53, 54, 55, 56, 57]
theorem digs_iff (c : UInt8) : digs.contains c = true ↔ (48 ≤ c.toNat ∧ c.toNat ≤ 57) := by
 constructor
 ·intro h
  simp only [digs, List.contains_cons, List.contains_nil, Bool.or_false, Bool.or_eq_true, beq_iff_eq] at h
  rcases h with rfl | rfl | rfl | rfl | rfl | rfl | rfl | rfl | rfl | rfl <;> decide
 ·rintro ⟨h1, h2⟩
  have : c = UInt8.ofNat c.toNat := by simp
  generalize c.toNat = n at *
  subst this
  have : n = 48 ∨ n = 49 ∨ n = 50 ∨ n = 51 ∨ n = 52 ∨ n = 53 ∨ n = 54 ∨ n = 55 ∨ n = 56 ∨ n = 57 := by omega
  rcases this with rfl | rfl | rfl | rfl | rfl | rfl | rfl | rfl | rfl | rfl <;> rfl
def allDig (x : List UInt8) : Bool := x.all fun c => digs.contains c
theorem dropS_nil : ∀ {x : List UInt8}, dropS digs x = [] ↔ allDig x = true
 | [] => by simp [dropS, allDig]
 | c :: r => by
  simp only [dropS, allDig, List.all_cons]
  cases h : digs.contains c with
  | true => simpa [allDig] using dropS_nil (x := r)
  | false => simp
theorem dropS_mem : ∀ {x : List UInt8} {c : UInt8}, c ∈ x → digs.contains c = false → c ∈ dropS digs x
 | d :: r, c, h, hc => by
  simp only [dropS]
  rcases List.mem_cons.1 h with rfl | h
  ·rw [hc]; simp
  ·cases digs.contains d with
   | true => simpa using dropS_mem h hc
   | false => simp [h]
theorem trim_nil (x : List UInt8) : dropS digs (dropS digs x.reverse).reverse = [] ↔ allDig x = true := by
 constructor
 ·intro h
  unfold allDig
  rw [List.all_eq_true]
  intro c hc
  cases hd : digs.contains c with
  | true => rfl
  | false =>
   have h1 : c ∈ dropS digs x.reverse := dropS_mem (by simpa using hc) hd
   have h2 : c ∈ dropS digs (dropS digs x.reverse).reverse := dropS_mem (by simpa using h1) hd
   rw [h] at h2; cases h2
 ·intro h
  have : dropS digs x.reverse = [] := dropS_nil.2 (by unfold allDig at *; rw [List.all_reverse]; exact h)
  rw [this]; rfl
theorem decGo_some : ∀ (x : List UInt8) (n : Nat), allDig x = true → ∃ m, decGo n x = some m
 | [], n, _ => ⟨n, rfl⟩
 | c :: r, n, h => by
  simp only [allDig, List.all_cons, Bool.and_eq_true] at h
  simp only [decGo]
  rw [if_pos ((digs_iff c).1 h.1)]
  exact decGo_some r _ h.2
theorem decGo_none : ∀ (x : List UInt8) (n : Nat), allDig x = false → decGo n x = none
 | [], n, h => by cases h
 | c :: r, n, h => by
  simp only [decGo]
  by_cases hc : 48 ≤ c.toNat ∧ c.toNat ≤ 57
  ·rw [if_pos hc]
   refine decGo_none r _ ?_
   simp only [allDig, List.all_cons, (digs_iff c).2 hc, Bool.true_and] at h
   exact h
  ·rw [if_neg hc]
def textG (ts : List (List UInt8)) (op occ : Int) : GVal := if inB ts occ then (if op = 2 then .mk 3 0 (atD ts occ []) [] else match decOf (atD ts occ []) with | some m => intG m | none => badG 2) else badG 7
theorem text_ok (A : XE E) (vs : List (List GVal)) (ts : List (List UInt8)) (e : Exp) (hlen : ∀ s ∈ ts, s.length ≤ 1000000) : lcall E 285 [rdV vs ts, e.arg] [] = some ((textG ts e.op e.occ).arg, []) := by
 have a1 := at294_ok A ts e.occ
 have b7 := bad_ok A 7
 have b2 := bad_ok A 2
 refine call_q A.e285 ?_
 unfold textG
 cases h : inB ts e.occ with
 | false =>
  rw [h] at a1
  rw [if_neg (by simp)]
  simp only [evAll, ↓reduceIte, Nat.reduceEqDiff, Nat.reduceAdd, Nat.reduceLeDiff, reduceCtorEq, c285, a1, b7]
 | true =>
  rw [h] at a1
  rw [if_pos rfl]
  have hsl : (atD ts e.occ []).length ≤ 1000000 := by
   unfold inB at h
   simp only [Bool.and_eq_true, decide_eq_true_eq] at h
   exact hlen _ (List.mem_of_getElem? (atD_in h.1 h.2))
  generalize atD ts e.occ [] = s at *
  by_cases h2 : e.op = 2
  ·rw [if_pos h2]
   simp only [evAll, ↓reduceIte, Nat.reduceEqDiff, Nat.reduceAdd, Nat.reduceLeDiff, reduceCtorEq, c285, a1, eq_true h2]
   rfl
  ·rw [if_neg h2]
   by_cases l1 : (s.length : Int) < 1
   ·have hn : decOf s = none := by
     have : s = [] := List.eq_nil_of_length_eq_zero (by omega)
     subst this; rfl
    rw [hn]
    simp only [evAll, ↓reduceIte, Nat.reduceEqDiff, Nat.reduceAdd, Nat.reduceLeDiff, reduceCtorEq, c285, a1, h2, eq_true l1, b2]
   ·by_cases l2 : (s.length : Int) > 18
    ·have hn : decOf s = none := by
      unfold decOf
      cases s with
      | nil => rfl
      | cons c r => simp only; rw [if_neg (by omega)]
     rw [hn]
     simp only [evAll, ↓reduceIte, Nat.reduceEqDiff, Nat.reduceAdd, Nat.reduceLeDiff, reduceCtorEq, c285, a1, h2, l1, eq_true l2, b2]
    ·have t1 : lcall E 295 [.d (.s s), .d (.s [48, 49, 50, 51, 52, 53, 54, 55, 56, 57])] [] = some (.d (.s (dropS digs (dropS digs s.reverse).reverse)), []) := by
      rw [lcall_prim A.e295]
      simp only [trimImpl]
      rw [if_pos ⟨by decide, by omega, by decide⟩]
      rfl
     have hd : decOf s = decGo 0 s := by
      unfold decOf
      cases s with
      | nil => exact absurd (by decide) l1
      | cons c r => simp only; rw [if_pos (by omega)]
     rw [hd]
     cases ha : allDig s with
     | true =>
      obtain ⟨m, hm⟩ := decGo_some s 0 ha
      have p1 : lcall E 296 [.d (.s s), .d (.i .i64 10), .d (.i .i64 64)] [] = some (.tup [.d (.i .i64 m), .bad], []) := by
       rw [lcall_prim A.e296]
       simp only [parseImpl, hd, hm]
       rfl
      rw [(trim_nil s).2 ha] at t1
      rw [hm]
      have vb : valIds 0 V.bad = [] := rfl
      simp only [evAll, ↓reduceIte, Nat.reduceEqDiff, Nat.reduceAdd, Nat.reduceLeDiff, reduceCtorEq, c285, a1, h2, l1, l2, t1, p1, vb]
      rfl
     | false =>
      rw [decGo_none s 0 ha]
      have hne : ¬ dropS digs (dropS digs s.reverse).reverse = [] := fun e => by rw [(trim_nil s).1 e] at ha; cases ha
      generalize dropS digs (dropS digs s.reverse).reverse = tr at *
      simp only [evAll, ↓reduceIte, Nat.reduceEqDiff, Nat.reduceAdd, Nat.reduceLeDiff, reduceCtorEq, c285, a1, h2, l1, l2, t1, hne, b2]
end Ab.Vx
