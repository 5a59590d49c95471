/-
 Searching a row: the program's Find, place.
-/
import Derived.Test.YtblhbdagpefloaaGreatDoorVx12
namespace Ab.Vx
open Go
set_option linter.unusedVariables false
set_option linter.unusedSimpArgs false
set_option maxRecDepth 100000
variable {E : Nat → Option Fn}
theorem shr1 (n : Nat) (h : n ≤ 1000000) : binOp .shr (.d (.i .u64 (n : Int))) (.d (.i .u64 1)) = some (.i .u64 ((n / 2 : Nat) : Int)) := by
 simp [binOp, isShift, shiftInt, IntKind.bits]
 exact Int.fdiv_eq_ediv_of_nonneg _ (by omega)
theorem u64_in {n : Nat} (h : n ≤ 1000000) : IntKind.u64.wrap (n : Int) = (n : Int) := by
 simp only [IntKind.wrap, IntKind.bits, IntKind.signed, Bool.false_and, Bool.false_eq_true, if_false]
 omega
structure Part (l : List GVal) (c : GVal → Int) (p : Nat) : Prop where
 le : p ≤ l.length
 lo : ∀ i x, i < p → l[i]? = some x → c x < 0
 hi : ∀ i x, p ≤ i → l[i]? = some x → 0 ≤ c x
def bs150Loop : CCode := match c150.body with
 | .seq _ (.seq _ (.seq _ (.seq (.block _ (.loop _ c)) _))) => c
 | _ => .skip
theorem bs150_loop {f : Nat} {l : List GVal} (hl : l.length ≤ 1000) {t : List UInt8} {c : GVal → Int} (ih : ∀ x ∈ l, lcall E f [x.arg, .d (.s t)] [] = some (.d (.i .i64 (c x)), [])) {p : Nat} (hp : Part l c p) {Q : Ex → St → Prop}
  (hx : ∀ tm, look tm 0 = .d (.l 4 (gvalRows l)) → look tm 2 = .d (.f f [] []) → look tm 8 = .d (.i .i64 l.length) → look tm 9 = .d (.i .i64 p) → look tm 1 = .d (.s t) → Q (.exit 0) ⟨tm, []⟩) :
  ∀ (n i j : Nat), j ≤ i + n → i ≤ p → p ≤ j → j ≤ l.length → LX E bs150Loop ⟨[0, 1, 2, 8, 9, 10], [], [], [], [], true⟩ 0 ⟨[(0, .d (.l 4 (gvalRows l))), (1, .d (.s t)), (2, .d (.f f [] [])), (8, .d (.i .i64 l.length)), (9, .d (.i .i64 i)), (10, .d (.i .i64 j))], []⟩ Q := by
 intro n
 induction n with
 | zero =>
  intro i j h1 h2 h3 h4
  have hn : ¬ ((i : Int) < j) := by omega
  obtain rfl : i = p := by omega
  refine lx_step (wx_seq (wx_seq ?_))
  refine wx_region fun K hK => ?_
  simp only [evW, evX, evM, evN, ↓reduceIte, Nat.reduceEqDiff, reduceCtorEq, hn]
  refine hK _ _ ?_; clear hK K
  refine wx_cond false rfl (fun h => by cases h) (fun _ => wx_exit ?_)
  exact hx _ rfl rfl rfl rfl rfl
 | succ n ihn =>
  intro i j h1 h2 h3 h4
  refine lx_step (wx_seq (wx_seq ?_))
  by_cases hij : i < j
  ·have hy : (i : Int) < j := by omega
   have w1 : IntKind.i64.wrap ((i : Int) + (j : Int)) = ((i + j : Nat) : Int) := by rw [i64_in (by omega) (by omega)]; omega
   have w2 := u64_in (n := i + j) (by omega)
   have w3 := shr1 (i + j) (by omega)
   have hlt : (i + j) / 2 < j := by omega
   have hge : i ≤ (i + j) / 2 := by omega
   generalize hh : (i + j) / 2 = h at *
   have w4 : IntKind.i64.wrap (h : Int) = (h : Int) := i64_in (by omega) (by omega)
   have w5 : IntKind.i64.wrap ((h : Int) + 1) = ((h + 1 : Nat) : Int) := by rw [i64_in (by omega) (by omega)]; omega
   have la : h < l.length := by omega
   have h0 : (0 : Int) ≤ h := by omega
   have ga : (gvalRows l)[h]? = some (GVal.row l[h]) := by rw [gvalRows_get, List.getElem?_eq_getElem la]; rfl
   have hcall := ih l[h] (List.getElem_mem la)
   have hlo : h < p → c l[h] < 0 := fun hh => hp.lo h _ hh (List.getElem?_eq_getElem la)
   have hhi : p ≤ h → 0 ≤ c l[h] := fun hh => hp.hi h _ hh (List.getElem?_eq_getElem la)
   generalize l[h] = x at *
   refine wx_region fun K hK => ?_
   simp only [evW, evX, evM, evN, ↓reduceIte, Nat.reduceEqDiff, reduceCtorEq, hy]
   refine hK _ _ ?_; clear hK K
   refine wx_cond true rfl (fun _ => wx_skip ?_) (fun h => by cases h)
   refine wx_block ?_
   refine wx_seq (wx_region fun K hK => ?_)
   simp only [evW, evX, evM, evN, ↓reduceIte, Nat.reduceEqDiff, reduceCtorEq, w1, w2, w3, w4]
   refine hK _ _ ?_; clear hK K
   refine wx_seq ?_
   by_cases hc : c x < 0
   ·refine wx_region fun K hK => ?_
    simp only [evW, evX, evM, evN, evC, far, ↓reduceIte, Nat.reduceEqDiff, Nat.reduceAdd, Nat.reduceLeDiff, reduceCtorEq, h0, Int.toNat_natCast, ga, row_eq, hcall, hc]
    refine hK _ _ ?_; clear hK K
    refine wx_cond true rfl (fun _ => ?_) (fun h => by cases h)
    refine wx_region fun K hK => ?_
    simp only [evW, evX, evM, evN, ↓reduceIte, Nat.reduceEqDiff, Nat.reduceAdd, w5]
    refine hK _ _ ?_; clear hK K
    have : h < p := by
     rcases Nat.lt_or_ge h p with q | q
     ·exact q
     ·have := hhi q; omega
    refine ⟨_, ?_, ihn (h + 1) j (by omega) (by omega) h3 h4⟩
    simp only [evH, evX, evN, ↓reduceIte, Nat.reduceEqDiff, reduceCtorEq]
   ·refine wx_region fun K hK => ?_
    simp only [evW, evX, evM, evN, evC, far, ↓reduceIte, Nat.reduceEqDiff, Nat.reduceAdd, Nat.reduceLeDiff, reduceCtorEq, h0, Int.toNat_natCast, ga, row_eq, hcall, hc]
    refine hK _ _ ?_; clear hK K
    refine wx_cond false rfl (fun h => by cases h) (fun _ => ?_)
    refine wx_region fun K hK => ?_
    simp only [evW, evX, evM, evN, ↓reduceIte, Nat.reduceEqDiff, Nat.reduceAdd]
    refine hK _ _ ?_; clear hK K
    have : p ≤ h := by
     rcases Nat.lt_or_ge h p with q | q
     ·have := hlo q; omega
     ·exact q
    refine ⟨_, ?_, ihn i h (by omega) h2 this (by omega)⟩
    simp only [evH, evX, evN, ↓reduceIte, Nat.reduceEqDiff, reduceCtorEq]
  ·have hn : ¬ ((i : Int) < j) := by omega
   obtain rfl : i = p := by omega
   refine wx_region fun K hK => ?_
   simp only [evW, evX, evM, evN, ↓reduceIte, Nat.reduceEqDiff, reduceCtorEq, hn]
   refine hK _ _ ?_; clear hK K
   refine wx_cond false rfl (fun h => by cases h) (fun _ => wx_exit ?_)
   exact hx _ rfl rfl rfl rfl rfl
def hasP (l : List GVal) (c : GVal → Int) (p : Nat) : Bool := match l[p]? with
 | some x => decide (c x = 0)
 | none => false
theorem bs150_ok (h150 : E 150 = some (.code c150)) {f : Nat} {l : List GVal} (hl : l.length ≤ 1000) {t : List UInt8} {c : GVal → Int} (ih : ∀ x ∈ l, lcall E f [x.arg, .d (.s t)] [] = some (.d (.i .i64 (c x)), [])) {p : Nat} (hp : Part l c p) :
  lcall E 150 [.d (.l 4 (gvalRows l)), .d (.s t), .d (.f f [] [])] [] = some (.tup [.d (.i .i64 p), .d (.b (hasP l c p))], []) := by
 refine call_wx h150 ?_
 refine wx_seq (wx_region fun K hK => ?_)
 simp only [evW, evX, evM, evN, Nat.reduceAdd]
 refine hK _ _ ?_; clear hK K
 refine wx_seq (wx_region fun K hK => ?_)
 simp only [evW, evX, evM, evN, ↓reduceIte, reduceCtorEq, gvalRows_length]
 refine hK _ _ ?_; clear hK K
 refine wx_seq (wx_region fun K hK => ?_)
 simp only [evW, evX, evM, evN, ↓reduceIte, Nat.reduceEqDiff]
 refine hK _ _ ?_; clear hK K
 refine wx_seq (wx_block (wx_loop ?_))
 simp only [evH, evX, evN, ↓reduceIte, Nat.reduceEqDiff, reduceCtorEq]
 refine bs150_loop hl ih hp (fun tm t0 t2 t8 t9 t4 => ?_) l.length 0 l.length (by omega) (by omega) hp.le (by omega)
 have hle := hp.le
 by_cases hlt : p < l.length
 ·have ga : (gvalRows l)[p]? = some (GVal.row l[p]) := by rw [gvalRows_get, List.getElem?_eq_getElem hlt]; rfl
  have hh : hasP l c p = decide (c l[p] = 0) := by unfold hasP; rw [List.getElem?_eq_getElem hlt]
  have hcall := ih l[p] (List.getElem_mem hlt)
  have hy : (p : Int) < l.length := by omega
  have h0 : (0 : Int) ≤ p := by omega
  rw [hh]
  generalize l[p] = x at *
  refine wx_seq (wx_region fun K hK => ?_)
  simp only [evW, evX, evM, evN, evC, far, ↓reduceIte, Nat.reduceEqDiff, Nat.reduceAdd, Nat.reduceLeDiff, reduceCtorEq, t0, t2, t8, t9, t4, hy, h0, Int.toNat_natCast, ga, row_eq, hcall]
  refine hK _ _ ?_; clear hK K
  refine wx_ret ⟨.inr rfl, ?_⟩
  simp only [evR, evX, evC, evN, ↓reduceIte, Nat.reduceEqDiff, far, c150]
 ·have hy : ¬ ((p : Int) < l.length) := by omega
  have hh : hasP l c p = false := by unfold hasP; rw [List.getElem?_eq_none (by omega)]
  rw [hh]
  refine wx_seq (wx_region fun K hK => ?_)
  simp only [evW, evX, evM, evN, ↓reduceIte, Nat.reduceEqDiff, t8, t9, hy]
  refine hK _ _ ?_; clear hK K
  refine wx_ret ⟨.inr rfl, ?_⟩
  simp only [evR, evX, evC, evN, ↓reduceIte, Nat.reduceEqDiff, far, c150]
def bs147Loop : CCode := match c147.body with
 | .seq _ (.seq _ (.seq _ (.seq (.block _ (.loop _ c)) _))) => c
 | _ => .skip
theorem bs147_loop {f : Nat} {l : List GVal} (hl : l.length ≤ 1000) {t : GVal} {c : GVal → Int} (ih : ∀ x ∈ l, lcall E f [x.arg, t.arg] [] = some (.d (.i .i64 (c x)), [])) {p : Nat} (hp : Part l c p) {Q : Ex → St → Prop}
  (hx : ∀ tm, look tm 0 = .d (.l 4 (gvalRows l)) → look tm 2 = .d (.f f [] []) → look tm 8 = .d (.i .i64 l.length) → look tm 9 = .d (.i .i64 p) → look tm 4 = .ptr 0 0 → Q (.exit 0) ⟨tm, [vbox t]⟩) :
  ∀ (n i j : Nat), j ≤ i + n → i ≤ p → p ≤ j → j ≤ l.length → LX E bs147Loop ⟨[0, 2, 4, 8, 9, 10], [], [], [], [], true⟩ 1 ⟨[(0, .d (.l 4 (gvalRows l))), (2, .d (.f f [] [])), (4, .ptr 0 0), (8, .d (.i .i64 l.length)), (9, .d (.i .i64 i)), (10, .d (.i .i64 j))], [vbox t]⟩ Q := by
 intro n
 induction n with
 | zero =>
  intro i j h1 h2 h3 h4
  have hn : ¬ ((i : Int) < j) := by omega
  obtain rfl : i = p := by omega
  refine lx_step (wx_seq (wx_seq ?_))
  refine wx_region fun K hK => ?_
  simp only [evW, evX, evM, evN, ↓reduceIte, Nat.reduceEqDiff, reduceCtorEq, hn]
  refine hK _ _ ?_; clear hK K
  refine wx_cond false rfl (fun h => by cases h) (fun _ => wx_exit ?_)
  exact hx _ rfl rfl rfl rfl rfl
 | succ n ihn =>
  intro i j h1 h2 h3 h4
  refine lx_step (wx_seq (wx_seq ?_))
  by_cases hij : i < j
  ·have hy : (i : Int) < j := by omega
   have w1 : IntKind.i64.wrap ((i : Int) + (j : Int)) = ((i + j : Nat) : Int) := by rw [i64_in (by omega) (by omega)]; omega
   have w2 := u64_in (n := i + j) (by omega)
   have w3 := shr1 (i + j) (by omega)
   have hlt : (i + j) / 2 < j := by omega
   have hge : i ≤ (i + j) / 2 := by omega
   generalize hh : (i + j) / 2 = h at *
   have w4 : IntKind.i64.wrap (h : Int) = (h : Int) := i64_in (by omega) (by omega)
   have w5 : IntKind.i64.wrap ((h : Int) + 1) = ((h + 1 : Nat) : Int) := by rw [i64_in (by omega) (by omega)]; omega
   have la : h < l.length := by omega
   have h0 : (0 : Int) ≤ h := by omega
   have ga : (gvalRows l)[h]? = some (GVal.row l[h]) := by rw [gvalRows_get, List.getElem?_eq_getElem la]; rfl
   have hcall := ih l[h] (List.getElem_mem la)
   have hlo : h < p → c l[h] < 0 := fun hh => hp.lo h _ hh (List.getElem?_eq_getElem la)
   have hhi : p ≤ h → 0 ≤ c l[h] := fun hh => hp.hi h _ hh (List.getElem?_eq_getElem la)
   generalize l[h] = x at *
   refine wx_region fun K hK => ?_
   simp only [evW, evX, evM, evN, ↓reduceIte, Nat.reduceEqDiff, reduceCtorEq, hy]
   refine hK _ _ ?_; clear hK K
   refine wx_cond true rfl (fun _ => wx_skip ?_) (fun h => by cases h)
   refine wx_block ?_
   refine wx_seq (wx_region fun K hK => ?_)
   simp only [evW, evX, evM, evN, ↓reduceIte, Nat.reduceEqDiff, reduceCtorEq, w1, w2, w3, w4]
   refine hK _ _ ?_; clear hK K
   refine wx_seq ?_
   by_cases hc : c x < 0
   ·refine wx_regionT fun K hK => ?_
    simp only [evW, evX, evM, evN, evC, far, ↓reduceIte, Nat.reduceEqDiff, Nat.reduceAdd, Nat.reduceLeDiff, reduceCtorEq, h0, Int.toNat_natCast, ga, row_eq, hcall, hc]
    refine hK _ _ (by rfl) ?_; clear hK K
    refine wx_cond true rfl (fun _ => ?_) (fun h => by cases h)
    refine wx_region fun K hK => ?_
    simp only [evW, evX, evM, evN, ↓reduceIte, Nat.reduceEqDiff, Nat.reduceAdd, w5]
    refine hK _ _ ?_; clear hK K
    have : h < p := by
     rcases Nat.lt_or_ge h p with q | q
     ·exact q
     ·have := hhi q; omega
    refine ⟨_, ?_, ihn (h + 1) j (by omega) (by omega) h3 h4⟩
    simp only [evH, evX, evN, ↓reduceIte, Nat.reduceEqDiff, Nat.reduceLT, reduceCtorEq]
   ·refine wx_regionT fun K hK => ?_
    simp only [evW, evX, evM, evN, evC, far, ↓reduceIte, Nat.reduceEqDiff, Nat.reduceAdd, Nat.reduceLeDiff, reduceCtorEq, h0, Int.toNat_natCast, ga, row_eq, hcall, hc]
    refine hK _ _ (by rfl) ?_; clear hK K
    refine wx_cond false rfl (fun h => by cases h) (fun _ => ?_)
    refine wx_region fun K hK => ?_
    simp only [evW, evX, evM, evN, ↓reduceIte, Nat.reduceEqDiff, Nat.reduceAdd]
    refine hK _ _ ?_; clear hK K
    have : p ≤ h := by
     rcases Nat.lt_or_ge h p with q | q
     ·have := hlo q; omega
     ·exact q
    refine ⟨_, ?_, ihn i h (by omega) h2 this (by omega)⟩
    simp only [evH, evX, evN, ↓reduceIte, Nat.reduceEqDiff, Nat.reduceLT, reduceCtorEq]
  ·have hn : ¬ ((i : Int) < j) := by omega
   obtain rfl : i = p := by omega
   refine wx_region fun K hK => ?_
   simp only [evW, evX, evM, evN, ↓reduceIte, Nat.reduceEqDiff, reduceCtorEq, hn]
   refine hK _ _ ?_; clear hK K
   refine wx_cond false rfl (fun h => by cases h) (fun _ => wx_exit ?_)
   exact hx _ rfl rfl rfl rfl rfl
theorem bs147_ok (h147 : E 147 = some (.code c147)) {f : Nat} {l : List GVal} (hl : l.length ≤ 1000) {t : GVal} {c : GVal → Int} (ih : ∀ x ∈ l, lcall E f [x.arg, t.arg] [] = some (.d (.i .i64 (c x)), [])) {p : Nat} (hp : Part l c p) :
  lcall E 147 [.d (.l 4 (gvalRows l)), t.arg, .d (.f f [] [])] [] = some (.tup [.d (.i .i64 p), .d (.b (hasP l c p))], []) := by
 refine call_wx h147 ?_
 refine wx_seq (wx_region fun K hK => ?_)
 simp only [evW, evX, evM, evN, ↓reduceIte, Nat.reduceAdd, reduceCtorEq]
 refine hK _ _ ?_; clear hK K
 refine wx_seq (wx_region fun K hK => ?_)
 simp only [evW, evX, evM, evN, ↓reduceIte, reduceCtorEq, gvalRows_length]
 refine hK _ _ ?_; clear hK K
 refine wx_seq (wx_region fun K hK => ?_)
 simp only [evW, evX, evM, evN, ↓reduceIte, Nat.reduceEqDiff]
 refine hK _ _ ?_; clear hK K
 refine wx_seq (wx_block (wx_loop ?_))
 simp only [evH, evX, evN, ↓reduceIte, Nat.reduceEqDiff, reduceCtorEq]
 refine bs147_loop hl ih hp (fun tm t0 t2 t8 t9 t4 => ?_) l.length 0 l.length (by omega) (by omega) hp.le (by omega)
 have hle := hp.le
 by_cases hlt : p < l.length
 ·have ga : (gvalRows l)[p]? = some (GVal.row l[p]) := by rw [gvalRows_get, List.getElem?_eq_getElem hlt]; rfl
  have hh : hasP l c p = decide (c l[p] = 0) := by unfold hasP; rw [List.getElem?_eq_getElem hlt]
  have hcall := ih l[p] (List.getElem_mem hlt)
  have hy : (p : Int) < l.length := by omega
  have h0 : (0 : Int) ≤ p := by omega
  rw [hh]
  generalize l[p] = x at *
  refine wx_seq (wx_regionT fun K hK => ?_)
  simp only [evW, evX, evM, evN, evC, far, ↓reduceIte, Nat.reduceEqDiff, Nat.reduceAdd, Nat.reduceLeDiff, reduceCtorEq, t0, t2, t8, t9, t4, hy, h0, Int.toNat_natCast, ga, row_eq, hcall]
  refine hK _ _ (by rfl) ?_; clear hK K
  refine wx_ret ⟨.inr rfl, ?_⟩
  simp only [evR, evX, evC, evN, ↓reduceIte, Nat.reduceEqDiff, far, c147]
 ·have hy : ¬ ((p : Int) < l.length) := by omega
  have hh : hasP l c p = false := by unfold hasP; rw [List.getElem?_eq_none (by omega)]
  rw [hh]
  refine wx_seq (wx_regionT fun K hK => ?_)
  simp only [evW, evX, evM, evN, ↓reduceIte, Nat.reduceEqDiff, Nat.reduceAdd, t8, t9, hy]
  refine hK _ _ (by rfl) ?_; clear hK K
  refine wx_ret ⟨.inr rfl, ?_⟩
  simp only [evR, evX, evC, evN, ↓reduceIte, Nat.reduceEqDiff, far, c147]
theorem place135_ok (h135 : E 135 = some (.code c135)) (h150 : E 150 = some (.code c150)) {f : Nat} {l : List GVal} (hl : l.length ≤ 1000) {t : List UInt8} {c : GVal → Int} (ih : ∀ x ∈ l, lcall E f [x.arg, .d (.s t)] [] = some (.d (.i .i64 (c x)), [])) {p : Nat} (hp : Part l c p) :
  lcall E 135 [.d (.l 4 (gvalRows l)), .d (.s t), .d (.f f [] [])] [] = some (.tup [.d (.i .i64 p), .d (.b (hasP l c p))], []) := by
 have := bs150_ok h150 hl ih hp
 refine call_wx h135 ?_
 refine wx_seq (wx_region fun K hK => ?_)
 simp only [evW, evX, evM, evN, Nat.reduceAdd]
 refine hK _ _ ?_; clear hK K
 refine wx_seq (wx_region fun K hK => ?_)
 simp only [evW, evX, evM, evN, evC, far, ↓reduceIte, Nat.reduceEqDiff, Nat.reduceLeDiff, reduceCtorEq, this]
 refine hK _ _ ?_; clear hK K
 refine wx_ret ⟨.inr rfl, ?_⟩
 simp only [evR, evX, evC, evN, ↓reduceIte, Nat.reduceEqDiff, far, c135]
theorem place133_ok (h133 : E 133 = some (.code c133)) (h147 : E 147 = some (.code c147)) {f : Nat} {l : List GVal} (hl : l.length ≤ 1000) {t : GVal} {c : GVal → Int} (ih : ∀ x ∈ l, lcall E f [x.arg, t.arg] [] = some (.d (.i .i64 (c x)), [])) {p : Nat} (hp : Part l c p) :
  lcall E 133 [.d (.l 4 (gvalRows l)), t.arg, .d (.f f [] [])] [] = some (.tup [.d (.i .i64 p), .d (.b (hasP l c p))], []) := by
 have := bs147_ok h147 hl ih hp
 refine call_wx h133 ?_
 refine wx_seq (wx_region fun K hK => ?_)
 simp only [evW, evX, evM, evN, ↓reduceIte, Nat.reduceAdd, reduceCtorEq]
 refine hK _ _ ?_; clear hK K
 refine wx_seq (wx_region fun K hK => ?_)
 simp only [evW, evX, evM, evN, evC, far, ↓reduceIte, Nat.reduceEqDiff, Nat.reduceAdd, Nat.reduceLeDiff, reduceCtorEq, this]
 refine hK _ _ ?_; clear hK K
 refine wx_ret ⟨.inr rfl, ?_⟩
 simp only [evR, evX, evC, evN, ↓reduceIte, Nat.reduceEqDiff, far, c133]
def cKey (k : List UInt8) (x : GVal) : Int := c3 (bytesLess (keyV x) k) (!(bytesLess (keyV x) k || keyV x == k))
theorem find1_ok (h136 : E 136 = some (.code c136)) (h137 : ∀ v : GVal, lcall E 137 [v.arg] [] = some (.d (.s (keyV v)), [])) (c129 : ∀ x y : List UInt8, lcall E 129 [.d (.s x), .d (.s y)] [] = some (.d (.i .i64 (c3 (bytesLess x y) (!(bytesLess x y || x == y)))), [])) (x : GVal) (k : List UInt8) :
  lcall E 136 [x.arg, .d (.s k)] [] = some (.d (.i .i64 (cKey k x)), []) := by
 have hk := h137 x
 refine call_wx h136 ?_
 refine wx_seq (wx_region fun K hK => ?_)
 simp only [evW, evX, evM, evN, ↓reduceIte, Nat.reduceAdd]
 refine hK _ _ ?_; clear hK K
 refine wx_seq (wx_region fun K hK => ?_)
 simp only [evW, evX, evM, evN, evC, far, ↓reduceIte, Nat.reduceEqDiff, Nat.reduceAdd, Nat.reduceLeDiff, reduceCtorEq, hk, c129]
 refine hK _ _ ?_; clear hK K
 refine wx_ret ⟨.inr rfl, ?_⟩
 simp only [evR, evX, evC, evN, ↓reduceIte, far, c136]
 rfl
theorem cKey_neg (k : List UInt8) (x : GVal) : cKey k x < 0 ↔ bytesLess (keyV x) k = true := by
 have := c3_neg (keyV x) k
 exact ⟨fun h => this ▸ decide_eq_true h, fun h => of_decide_eq_true (this.trans h)⟩
theorem cKey_zero (k : List UInt8) (x : GVal) : cKey k x = 0 ↔ keyV x = k := by
 unfold cKey c3
 rcases bl_total (keyV x) k with h | h | h
 ·have : keyV x ≠ k := fun e => by rw [e, bl_irrefl] at h; cases h
  simp [h, this]
 ·subst h; simp [bl_irrefl]
 ·have h2 := bl_asymm h
  have : keyV x ≠ k := fun e => by rw [e, bl_irrefl] at h; cases h
  simp [h2, this]
theorem part_key (k : List UInt8) : ∀ {l : List GVal}, chainB ltK l = true → Part l (cKey k) (posK k l)
 | [], _ => ⟨Nat.zero_le _, fun i x h => by simp [posK] at h, fun i x _ h => by simp at h⟩
 | x :: r, h => by
  have ih := part_key k (chain_tail h)
  have hall := chain_all ltK_trans h
  simp only [posK]
  split
  ·rename_i hb
   refine ⟨by simpa using ih.le, fun i y hi hy => ?_, fun i y hi hy => ?_⟩
   ·cases i with
    | zero => simp at hy; subst hy; exact (cKey_neg k x).2 hb
    | succ i => exact ih.lo i y (by omega) (by simpa using hy)
   ·cases i with
    | zero => omega
    | succ i => exact ih.hi i y (by omega) (by simpa using hy)
  ·rename_i hb
   have ge : ∀ y, y = x ∨ y ∈ r → 0 ≤ cKey k y := fun y hy => by
    rcases Int.lt_or_le (cKey k y) 0 with hlt | hge
    ·exfalso
     have h1 := (cKey_neg k y).1 hlt
     rcases hy with rfl | hy
     ·exact hb h1
     ·exact hb (bl_trans (hall y hy) h1)
    ·exact hge
   refine ⟨Nat.zero_le _, fun i y hi => by omega, fun i y _ hy => ge y ?_⟩
   have := List.mem_of_getElem? hy
   simpa using this
theorem find_ok (h119 : E 119 = some (.code c119)) (h135 : E 135 = some (.code c135)) (h150 : E 150 = some (.code c150)) (h136 : ∀ (x : GVal) (k : List UInt8), lcall E 136 [x.arg, .d (.s k)] [] = some (.d (.i .i64 (cKey k x)), [])) {l : List GVal} (hl : l.length ≤ 1000) (hch : chainB ltK l = true) (hne : ∀ x ∈ l, 0 < x.l.length) (k : List UInt8) :
  lcall E 119 [.d (.l 4 (gvalRows l)), .d (.s k)] [] = some (.tup [.d (.i .i64 (posK k l : Nat)), .d (.b (hasK k l))], []) := by
 have := place135_ok h135 h150 (f := 136) hl (t := k) (fun x _ => h136 x k) (part_key k hch)
 have hh : hasP l (cKey k) (posK k l) = hasK k l := by
  unfold hasP hasK
  cases hx : l[posK k l]? with
  | none => rfl
  | some x =>
   have h1 := hne x (List.mem_of_getElem? hx)
   have h2 := cKey_zero k x
   simp only [h1, decide_true, Bool.true_and, h2]
 rw [hh] at this
 refine call_wx h119 ?_
 refine wx_seq (wx_region fun K hK => ?_)
 simp only [evW, evX, evM, evN, Nat.reduceAdd]
 refine hK _ _ ?_; clear hK K
 refine wx_seq (wx_region fun K hK => ?_)
 simp only [evW, evX, evM, evN, evC, far, ↓reduceIte, Nat.reduceEqDiff, Nat.reduceLeDiff, reduceCtorEq, this]
 refine hK _ _ ?_; clear hK K
 refine wx_ret ⟨.inr rfl, ?_⟩
 simp only [evR, evX, evC, evN, ↓reduceIte, Nat.reduceEqDiff, far, c119]
theorem part_cmp (v : GVal) : ∀ {l : List GVal}, chainB ltV l = true → Part l (fun x => cmpV x v) (posV v l)
 | [], _ => ⟨Nat.zero_le _, fun i x h => by simp [posV] at h, fun i x _ h => by simp at h⟩
 | x :: r, h => by
  have ih := part_cmp v (chain_tail h)
  have hall := chain_all ltV_trans h
  simp only [posV]
  split
  ·rename_i hb
   refine ⟨by simpa using ih.le, fun i y hi hy => ?_, fun i y hi hy => ?_⟩
   ·cases i with
    | zero => simp at hy; subst hy; exact hb
    | succ i => exact ih.lo i y (by omega) (by simpa using hy)
   ·cases i with
    | zero => omega
    | succ i => exact ih.hi i y (by omega) (by simpa using hy)
  ·rename_i hb
   have ge : ∀ y, y = x ∨ y ∈ r → 0 ≤ cmpV y v := fun y hy => by
    rcases Int.lt_or_le (cmpV y v) 0 with hlt | hge
    ·exfalso
     rcases hy with rfl | hy
     ·exact hb hlt
     ·have := hall y hy
      simp only [ltV, decide_eq_true_eq] at this
      exact hb (cmp_trans x y v this hlt)
    ·exact hge
   refine ⟨Nat.zero_le _, fun i y hi => by omega, fun i y _ hy => ge y ?_⟩
   have := List.mem_of_getElem? hy
   simpa using this
end Ab.Vx
