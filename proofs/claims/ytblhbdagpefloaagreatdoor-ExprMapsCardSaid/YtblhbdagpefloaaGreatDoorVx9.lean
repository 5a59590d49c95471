/-
 How values stand: the program's Compare.
-/
import Derived.Test.YtblhbdagpefloaaGreatDoorVx8
namespace Ab.Vx
open Go
set_option linter.unusedVariables false
set_option linter.unusedSimpArgs false
set_option maxRecDepth 100000
variable {E : Nat → Option Fn}
def c3 (lt gt : Bool) : Int := if lt then -1 else if gt then 1 else 0
theorem nan143 (hk : E 143 = some (.code c143)) (x : Int) : lcall E 143 [.d (.i .i64 x)] [] = some (.d (.b false), []) := by
 refine call_wx hk ?_
 refine wx_seq (wx_region fun K hK => ?_)
 simp only [evW, evX, evM, evN]
 refine hK _ _ ?_; clear hK K
 refine wx_seq (wx_region fun K hK => ?_)
 simp only [evW, evX, evM, evN, ↓reduceIte, Nat.reduceEqDiff, reduceCtorEq, not_true_eq_false]
 refine hK _ _ ?_; clear hK K
 refine wx_ret ⟨.inr rfl, ?_⟩
 simp only [evR, evX, evC, evN, ↓reduceIte, far, c143]
theorem cmp127 (hk : E 143 = some (.code c143)) (hc : E 127 = some (.code c127)) (x y : Int) : lcall E 127 [.d (.i .i64 x), .d (.i .i64 y)] [] = some (.d (.i .i64 (c3 (decide (x < y)) (decide (y < x)))), []) := by
 have n1 := nan143 hk x
 have n2 := nan143 hk y
 refine call_wx hc ?_
 refine wx_seq (wx_region fun K hK => ?_)
 simp only [evW, evX, evM, evN, Nat.reduceAdd]
 refine hK _ _ ?_; clear hK K
 refine wx_seq (wx_region fun K hK => ?_)
 simp only [evW, evX, evM, evN, evC, far, ↓reduceIte, Nat.reduceLeDiff, reduceCtorEq, n1]
 refine hK _ _ ?_; clear hK K
 refine wx_seq (wx_region fun K hK => ?_)
 simp only [evW, evX, evM, evN, evC, far, ↓reduceIte, Nat.reduceEqDiff, Nat.reduceLeDiff, reduceCtorEq, n2]
 refine hK _ _ ?_; clear hK K
 refine wx_seq (wx_seq ?_)
 refine wx_region fun K hK => ?_
 simp only [evW, evX, evM, evN, ↓reduceIte, Nat.reduceEqDiff]
 refine hK _ _ ?_; clear hK K
 refine wx_cond false rfl (fun h => by cases h) (fun _ => wx_skip ?_)
 refine wx_seq (wx_seq ?_)
 refine wx_region fun K hK => ?_
 simp only [evW, evX, evM, evN, ↓reduceIte, Nat.reduceEqDiff]
 refine hK _ _ ?_; clear hK K
 refine wx_cond false rfl (fun h => by cases h) (fun _ => wx_skip ?_)
 refine wx_seq (wx_seq ?_)
 refine wx_region fun K hK => ?_
 simp only [evW, evX, evM, evN, ↓reduceIte, Nat.reduceEqDiff, reduceCtorEq]
 refine hK _ _ ?_; clear hK K
 refine wx_cond _ rfl (fun h => ?_) (fun h => wx_skip ?_)
 ·refine wx_seq (wx_region fun K hK => ?_)
  simp only [evW, evX, evM, evN, Int.reduceNeg]
  refine hK _ _ ?_; clear hK K
  refine wx_ret ⟨.inr rfl, ?_⟩
  simp only [evR, evX, evC, evN, ↓reduceIte, far, c127, c3, h]
 ·refine wx_seq (wx_seq ?_)
  refine wx_region fun K hK => ?_
  simp only [evW, evX, evM, evN, ↓reduceIte, Nat.reduceEqDiff, reduceCtorEq]
  refine hK _ _ ?_; clear hK K
  refine wx_cond _ rfl (fun h2 => ?_) (fun h2 => wx_skip ?_)
  ·refine wx_seq (wx_region fun K hK => ?_)
   simp only [evW, evX, evM, evN]
   refine hK _ _ ?_; clear hK K
   try simp only [h, Bool.false_or] at h2
   refine wx_ret ⟨.inr rfl, ?_⟩
   simp only [evR, evX, evC, evN, ↓reduceIte, far, c127, c3, h, h2]
  ·refine wx_seq (wx_region fun K hK => ?_)
   simp only [evW, evX, evM, evN]
   refine hK _ _ ?_; clear hK K
   try simp only [h, Bool.false_or] at h2
   refine wx_ret ⟨.inr rfl, ?_⟩
   simp only [evR, evX, evC, evN, ↓reduceIte, far, c127, c3, h, h2]
theorem nan144 (hk : E 144 = some (.code c144)) (x : Int) : lcall E 144 [.d (.i .i64 x)] [] = some (.d (.b false), []) := by
 refine call_wx hk ?_
 refine wx_seq (wx_region fun K hK => ?_)
 simp only [evW, evX, evM, evN]
 refine hK _ _ ?_; clear hK K
 refine wx_seq (wx_region fun K hK => ?_)
 simp only [evW, evX, evM, evN, ↓reduceIte, Nat.reduceEqDiff, reduceCtorEq, not_true_eq_false]
 refine hK _ _ ?_; clear hK K
 refine wx_ret ⟨.inr rfl, ?_⟩
 simp only [evR, evX, evC, evN, ↓reduceIte, far, c144]
theorem cmp128 (hk : E 144 = some (.code c144)) (hc : E 128 = some (.code c128)) (x y : Int) : lcall E 128 [.d (.i .i64 x), .d (.i .i64 y)] [] = some (.d (.i .i64 (c3 (decide (x < y)) (decide (y < x)))), []) := by
 have n1 := nan144 hk x
 have n2 := nan144 hk y
 refine call_wx hc ?_
 refine wx_seq (wx_region fun K hK => ?_)
 simp only [evW, evX, evM, evN, Nat.reduceAdd]
 refine hK _ _ ?_; clear hK K
 refine wx_seq (wx_region fun K hK => ?_)
 simp only [evW, evX, evM, evN, evC, far, ↓reduceIte, Nat.reduceLeDiff, reduceCtorEq, n1]
 refine hK _ _ ?_; clear hK K
 refine wx_seq (wx_region fun K hK => ?_)
 simp only [evW, evX, evM, evN, evC, far, ↓reduceIte, Nat.reduceEqDiff, Nat.reduceLeDiff, reduceCtorEq, n2]
 refine hK _ _ ?_; clear hK K
 refine wx_seq (wx_seq ?_)
 refine wx_region fun K hK => ?_
 simp only [evW, evX, evM, evN, ↓reduceIte, Nat.reduceEqDiff]
 refine hK _ _ ?_; clear hK K
 refine wx_cond false rfl (fun h => by cases h) (fun _ => wx_skip ?_)
 refine wx_seq (wx_seq ?_)
 refine wx_region fun K hK => ?_
 simp only [evW, evX, evM, evN, ↓reduceIte, Nat.reduceEqDiff]
 refine hK _ _ ?_; clear hK K
 refine wx_cond false rfl (fun h => by cases h) (fun _ => wx_skip ?_)
 refine wx_seq (wx_seq ?_)
 refine wx_region fun K hK => ?_
 simp only [evW, evX, evM, evN, ↓reduceIte, Nat.reduceEqDiff, reduceCtorEq]
 refine hK _ _ ?_; clear hK K
 refine wx_cond _ rfl (fun h => ?_) (fun h => wx_skip ?_)
 ·refine wx_seq (wx_region fun K hK => ?_)
  simp only [evW, evX, evM, evN, Int.reduceNeg]
  refine hK _ _ ?_; clear hK K
  refine wx_ret ⟨.inr rfl, ?_⟩
  simp only [evR, evX, evC, evN, ↓reduceIte, far, c128, c3, h]
 ·refine wx_seq (wx_seq ?_)
  refine wx_region fun K hK => ?_
  simp only [evW, evX, evM, evN, ↓reduceIte, Nat.reduceEqDiff, reduceCtorEq]
  refine hK _ _ ?_; clear hK K
  refine wx_cond _ rfl (fun h2 => ?_) (fun h2 => wx_skip ?_)
  ·refine wx_seq (wx_region fun K hK => ?_)
   simp only [evW, evX, evM, evN]
   refine hK _ _ ?_; clear hK K
   try simp only [h, Bool.false_or] at h2
   refine wx_ret ⟨.inr rfl, ?_⟩
   simp only [evR, evX, evC, evN, ↓reduceIte, far, c128, c3, h, h2]
  ·refine wx_seq (wx_region fun K hK => ?_)
   simp only [evW, evX, evM, evN]
   refine hK _ _ ?_; clear hK K
   try simp only [h, Bool.false_or] at h2
   refine wx_ret ⟨.inr rfl, ?_⟩
   simp only [evR, evX, evC, evN, ↓reduceIte, far, c128, c3, h, h2]
theorem nan145 (hk : E 145 = some (.code c145)) (x : List UInt8) : lcall E 145 [.d (.s x)] [] = some (.d (.b false), []) := by
 refine call_wx hk ?_
 refine wx_seq (wx_region fun K hK => ?_)
 simp only [evW, evX, evM, evN]
 refine hK _ _ ?_; clear hK K
 refine wx_seq (wx_region fun K hK => ?_)
 simp only [evW, evX, evM, evN, ↓reduceIte, Nat.reduceEqDiff, reduceCtorEq, not_true_eq_false]
 refine hK _ _ ?_; clear hK K
 refine wx_ret ⟨.inr rfl, ?_⟩
 simp only [evR, evX, evC, evN, ↓reduceIte, far, c145]
theorem cmp129 (hk : E 145 = some (.code c145)) (hc : E 129 = some (.code c129)) (x y : List UInt8) : lcall E 129 [.d (.s x), .d (.s y)] [] = some (.d (.i .i64 (c3 (bytesLess x y) (!(bytesLess x y || x == y)))), []) := by
 have n1 := nan145 hk x
 have n2 := nan145 hk y
 refine call_wx hc ?_
 refine wx_seq (wx_region fun K hK => ?_)
 simp only [evW, evX, evM, evN, Nat.reduceAdd]
 refine hK _ _ ?_; clear hK K
 refine wx_seq (wx_region fun K hK => ?_)
 simp only [evW, evX, evM, evN, evC, far, ↓reduceIte, Nat.reduceLeDiff, reduceCtorEq, n1]
 refine hK _ _ ?_; clear hK K
 refine wx_seq (wx_region fun K hK => ?_)
 simp only [evW, evX, evM, evN, evC, far, ↓reduceIte, Nat.reduceEqDiff, Nat.reduceLeDiff, reduceCtorEq, n2]
 refine hK _ _ ?_; clear hK K
 refine wx_seq (wx_seq ?_)
 refine wx_region fun K hK => ?_
 simp only [evW, evX, evM, evN, ↓reduceIte, Nat.reduceEqDiff]
 refine hK _ _ ?_; clear hK K
 refine wx_cond false rfl (fun h => by cases h) (fun _ => wx_skip ?_)
 refine wx_seq (wx_seq ?_)
 refine wx_region fun K hK => ?_
 simp only [evW, evX, evM, evN, ↓reduceIte, Nat.reduceEqDiff]
 refine hK _ _ ?_; clear hK K
 refine wx_cond false rfl (fun h => by cases h) (fun _ => wx_skip ?_)
 refine wx_seq (wx_seq ?_)
 refine wx_region fun K hK => ?_
 simp only [evW, evX, evM, evN, ↓reduceIte, Nat.reduceEqDiff, reduceCtorEq]
 refine hK _ _ ?_; clear hK K
 refine wx_cond _ rfl (fun h => ?_) (fun h => wx_skip ?_)
 ·refine wx_seq (wx_region fun K hK => ?_)
  simp only [evW, evX, evM, evN, Int.reduceNeg]
  refine hK _ _ ?_; clear hK K
  refine wx_ret ⟨.inr rfl, ?_⟩
  simp only [evR, evX, evC, evN, ↓reduceIte, far, c129, c3, h]
 ·refine wx_seq (wx_seq ?_)
  refine wx_region fun K hK => ?_
  simp only [evW, evX, evM, evN, ↓reduceIte, Nat.reduceEqDiff, reduceCtorEq]
  refine hK _ _ ?_; clear hK K
  refine wx_cond _ rfl (fun h2 => ?_) (fun h2 => wx_skip ?_)
  ·refine wx_seq (wx_region fun K hK => ?_)
   simp only [evW, evX, evM, evN]
   refine hK _ _ ?_; clear hK K
   try simp only [h, Bool.false_or] at h2
   refine wx_ret ⟨.inr rfl, ?_⟩
   simp only [evR, evX, evC, evN, ↓reduceIte, far, c129, c3, h, h2]
  ·refine wx_seq (wx_region fun K hK => ?_)
   simp only [evW, evX, evM, evN]
   refine hK _ _ ?_; clear hK K
   try simp only [h, Bool.false_or] at h2
   refine wx_ret ⟨.inr rfl, ?_⟩
   simp only [evR, evX, evC, evN, ↓reduceIte, far, c129, c3, h, h2]
def orI : List Int → Int
 | [] => 0
 | x :: r => if x = 0 then orI r else x
def intRows (l : List Int) : List (List D) := l.map fun x => [.i .i64 x]
def orLoop : CCode := match c126.body with
 | .seq _ (.seq _ (.seq (.seq _ (.block _ (.loop _ c))) _)) => c
 | _ => .skip
theorem or_loop {l : List Int} (hl : l.length ≤ 1000) {Q : Ex → St → Prop} (hx : ∀ tm, look tm 3 = .d (.i .i64 0) → orI l = 0 → Q (.exit 0) ⟨tm, []⟩) (hr : ∀ tm, look tm 2 = .d (.i .i64 (orI l)) → Q .ret ⟨tm, []⟩) :
  ∀ (n i : Nat), i + n = l.length → orI l = orI (l.drop i) → LX E orLoop ⟨[3, 6, 7, 8], [], [], [], [], true⟩ 0 ⟨[(3, .d (.i .i64 0)), (6, .d (.l 1 (intRows l))), (7, .d (.i .i64 l.length)), (8, .d (.i .i64 i))], []⟩ Q := by
 intro n
 induction n with
 | zero =>
  intro i hi ho
  have hn : ¬ ((i : Int) < l.length) := by omega
  rw [List.drop_eq_nil_of_le (by omega), orI] at ho
  refine lx_step ?_
  refine wx_seq (wx_region fun K hK => ?_)
  simp only [evW, evX, evM, evN, ↓reduceIte, Nat.reduceEqDiff, hn]
  refine hK _ _ ?_; clear hK K
  refine wx_seq (wx_cond false rfl (fun h => by cases h) (fun _ => wx_exit ?_))
  exact hx _ rfl ho
 | succ n ihn =>
  intro i hi ho
  have hy : (i : Int) < l.length := by omega
  have la : i < l.length := by omega
  have h0 : (0 : Int) ≤ i := by omega
  have ga : (intRows l)[i]? = some [.i .i64 l[i]] := by simp [intRows, List.getElem?_eq_getElem la]
  rw [drop_cons la, orI] at ho
  generalize l[i] = x at *
  have w : IntKind.i64.wrap ((i : Int) + 1) = ((i + 1 : Nat) : Int) := by rw [i64_in (by omega) (by omega)]; omega
  refine lx_step ?_
  refine wx_seq (wx_region fun K hK => ?_)
  simp only [evW, evX, evM, evN, ↓reduceIte, Nat.reduceEqDiff, hy]
  refine hK _ _ ?_; clear hK K
  refine wx_seq (wx_cond true rfl (fun _ => wx_skip ?_) (fun h => by cases h))
  refine wx_seq (wx_block ?_)
  refine wx_seq (wx_region fun K hK => ?_)
  simp only [evW, evX, evM, evN, ↓reduceIte, Nat.reduceEqDiff, h0, Int.toNat_natCast, ga]
  refine hK _ _ ?_; clear hK K
  by_cases e : x = 0
  ·rw [if_pos e] at ho
   refine wx_seq (wx_region fun K hK => ?_)
   simp only [evW, evX, evM, evN, ↓reduceIte, Nat.reduceEqDiff, not_true_eq_false, eq_true e]
   refine hK _ _ ?_; clear hK K
   refine wx_cond false rfl (fun h => by cases h) (fun _ => wx_skip ?_)
   refine wx_region fun K hK => ?_
   simp only [evW, evX, evM, evN, ↓reduceIte, Nat.reduceEqDiff, w]
   refine hK _ _ ?_; clear hK K
   refine ⟨_, ?_, ihn (i + 1) (by omega) ho⟩
   simp only [evH, evX, evN, ↓reduceIte, Nat.reduceEqDiff]
  ·rw [if_neg e] at ho
   refine wx_seq (wx_region fun K hK => ?_)
   simp only [evW, evX, evM, evN, ↓reduceIte, Nat.reduceEqDiff, not_false_eq_true, e]
   refine hK _ _ ?_; clear hK K
   refine wx_cond true rfl (fun _ => ?_) (fun h => by cases h)
   refine wx_seq (wx_region fun K hK => ?_)
   simp only [evW, evX, evM, evN, ↓reduceIte, Nat.reduceEqDiff]
   refine hK _ _ ?_; clear hK K
   exact wx_ret (hr _ (by rw [ho]; rfl))
theorem or_ok (h126 : E 126 = some (.code c126)) (l : List Int) (hl : l.length ≤ 1000) : lcall E 126 [.d (.l 1 (intRows l))] [] = some (.d (.i .i64 (orI l)), []) := by
 have hlen : (intRows l).length = l.length := by simp [intRows]
 refine call_wx h126 ?_
 refine wx_seq (wx_region fun K hK => ?_)
 simp only [evW, evX, evM, evN]
 refine hK _ _ ?_; clear hK K
 refine wx_seq (wx_region fun K hK => ?_)
 simp only [evW, evX, evM, evN]
 refine hK _ _ ?_; clear hK K
 refine wx_seq (wx_seq ?_)
 refine wx_region fun K hK => ?_
 simp only [evW, evX, evM, evN, ↓reduceIte, reduceCtorEq, hlen]
 refine hK _ _ ?_; clear hK K
 refine wx_block (wx_loop ?_)
 simp only [evH, evX, evN, ↓reduceIte, Nat.reduceEqDiff]
 refine or_loop hl (fun tm t3 ho => ?_) (fun tm t2 => ?_) l.length 0 (by omega) rfl
 ·refine wx_seq (wx_region fun K hK => ?_)
  simp only [evW, evX, evM, evN, ↓reduceIte, t3]
  refine hK _ _ ?_; clear hK K
  refine wx_ret ⟨.inr rfl, ?_⟩
  simp only [evR, evX, evC, evN, ↓reduceIte, far, c126, ho]
 ·refine ⟨.inr rfl, ?_⟩
  simp only [evR, evC, evN, far, c126, t2]
def cfLoop : CCode := match c130.body with
 | .seq _ (.seq (.seq _ (.block _ (.loop _ c))) _) => c
 | _ => .skip
theorem cf_loop {f : Nat} {a b : List GVal} (ha : a.length ≤ 1000) (hb : b.length ≤ 1000) (ih : ∀ x ∈ a, ∀ y ∈ b, lcall E f [x.arg, y.arg] [] = some (.d (.i .i64 (cmpV x y)), []))
  {Q : Ex → St → Prop} (hx : ∀ tm, look tm 0 = .d (.l 4 (gvalRows a)) → look tm 1 = .d (.l 4 (gvalRows b)) → a.length ≤ b.length → cmpL a b = cmpL [] (b.drop a.length) → Q (.exit 0) ⟨tm, []⟩)
  (hr : ∀ tm hp, look tm 6 = .d (.i .i64 (cmpL a b)) → Q .ret ⟨tm, hp⟩) :
  ∀ (n i : Nat), i + n = a.length → i ≤ b.length → cmpL a b = cmpL (a.drop i) (b.drop i) → LX E cfLoop ⟨[0, 1, 2, 11, 12, 13], [], [], [], [], true⟩ 0 ⟨[(0, .d (.l 4 (gvalRows a))), (1, .d (.l 4 (gvalRows b))), (2, .d (.f f [] [])), (11, .d (.l 4 (gvalRows a))), (12, .d (.i .i64 a.length)), (13, .d (.i .i64 i))], []⟩ Q := by
 intro n
 induction n with
 | zero =>
  intro i hi hib hc
  have hna : ¬ ((i : Int) < a.length) := by omega
  have : i = a.length := by omega
  subst this
  rw [List.drop_eq_nil_of_le (Nat.le_refl _)] at hc
  refine lx_step ?_
  refine wx_seq (wx_region fun K hK => ?_)
  simp only [evW, evX, evM, evN, ↓reduceIte, Nat.reduceEqDiff, reduceCtorEq, hna]
  refine hK _ _ ?_; clear hK K
  refine wx_seq (wx_cond false rfl (fun h => by cases h) (fun _ => wx_exit ?_))
  exact hx _ rfl rfl hib hc
 | succ n ihn =>
  intro i hi hib hc
  have hya : (i : Int) < a.length := by omega
  have la : i < a.length := by omega
  have h0 : (0 : Int) ≤ i := by omega
  have ga : (gvalRows a)[i]? = some (GVal.row a[i]) := by rw [gvalRows_get, List.getElem?_eq_getElem la]; rfl
  refine lx_step ?_
  refine wx_seq (wx_region fun K hK => ?_)
  simp only [evW, evX, evM, evN, ↓reduceIte, Nat.reduceEqDiff, reduceCtorEq, hya]
  refine hK _ _ ?_; clear hK K
  refine wx_seq (wx_cond true rfl (fun _ => wx_skip ?_) (fun h => by cases h))
  refine wx_seq (wx_block ?_)
  refine wx_seq (wx_region fun K hK => ?_)
  simp only [evW, evX, evM, evN, ↓reduceIte, Nat.reduceEqDiff, Nat.reduceAdd, Nat.reduceLeDiff, reduceCtorEq, h0, Int.toNat_natCast, ga, row_eq]
  refine hK _ _ ?_; clear hK K
  by_cases hib2 : i = b.length
  ·have hnb : (b.length : Int) ≤ i := by omega
   rw [drop_cons la, List.drop_eq_nil_of_le (show b.length ≤ i by omega), cmpL] at hc
   refine wx_seq (wx_seq ?_)
   refine wx_region fun K hK => ?_
   simp only [evW, evX, evM, evN, ↓reduceIte, Nat.reduceEqDiff, reduceCtorEq, gvalRows_length, hnb]
   refine hK _ _ ?_; clear hK K
   refine wx_cond true rfl (fun _ => ?_) (fun h => by cases h)
   refine wx_seq (wx_region fun K hK => ?_)
   simp only [evW, evX, evM, evN]
   refine hK _ _ ?_; clear hK K
   exact wx_ret (hr _ _ (by rw [hc]; rfl))
  ·have hnb : ¬ (b.length : Int) ≤ i := by omega
   have lb : i < b.length := by omega
   have gb : (gvalRows b)[i]? = some (GVal.row b[i]) := by rw [gvalRows_get, List.getElem?_eq_getElem lb]; rfl
   have hcall := ih a[i] (List.getElem_mem la) b[i] (List.getElem_mem lb)
   rw [drop_cons la, drop_cons lb, cmpL] at hc
   generalize a[i] = x at *
   generalize b[i] = y at *
   refine wx_seq (wx_seq ?_)
   refine wx_region fun K hK => ?_
   simp only [evW, evX, evM, evN, ↓reduceIte, Nat.reduceEqDiff, reduceCtorEq, gvalRows_length, hnb]
   refine hK _ _ ?_; clear hK K
   refine wx_cond false rfl (fun h => by cases h) (fun _ => wx_skip ?_)
   refine wx_seq (wx_region fun K hK => ?_)
   simp only [evW, evX, evM, evN, ↓reduceIte, Nat.reduceEqDiff, Nat.reduceAdd, Nat.reduceLeDiff, reduceCtorEq, h0, Int.toNat_natCast, gb, row_eq]
   refine hK _ _ ?_; clear hK K
   refine wx_seq (wx_region fun K hK => ?_)
   simp only [evW, evX, evM, evN, evC, far, ↓reduceIte, Nat.reduceEqDiff, Nat.reduceAdd, Nat.reduceLeDiff, reduceCtorEq, hcall]
   refine hK _ _ ?_; clear hK K
   have w : IntKind.i64.wrap ((i : Int) + 1) = ((i + 1 : Nat) : Int) := by rw [i64_in (by omega) (by omega)]; omega
   by_cases hxy : cmpV x y = 0
   ·rw [if_pos hxy] at hc
    refine wx_seq (wx_region fun K hK => ?_)
    simp only [evW, evX, evM, evN, ↓reduceIte, Nat.reduceAdd, not_true_eq_false, hxy]
    refine hK _ _ ?_; clear hK K
    refine wx_cond false rfl (fun h => by cases h) (fun _ => wx_skip ?_)
    refine wx_region fun K hK => ?_
    simp only [evW, evX, evM, evN, ↓reduceIte, Nat.reduceEqDiff, Nat.reduceAdd, reduceCtorEq, w]
    refine hK _ _ ?_; clear hK K
    refine ⟨_, ?_, ihn (i + 1) (by omega) (by omega) hc⟩
    simp only [evH, evX, evN, ↓reduceIte, Nat.reduceEqDiff, reduceCtorEq]
   ·rw [if_neg hxy] at hc
    refine wx_seq (wx_region fun K hK => ?_)
    simp only [evW, evX, evM, evN, ↓reduceIte, Nat.reduceAdd, not_false_eq_true, hxy]
    refine hK _ _ ?_; clear hK K
    refine wx_cond true rfl (fun _ => ?_) (fun h => by cases h)
    refine wx_seq (wx_region fun K hK => ?_)
    simp only [evW, evX, evM, evN, ↓reduceIte, Nat.reduceEqDiff, Nat.reduceAdd]
    refine hK _ _ ?_; clear hK K
    exact wx_ret (hr _ _ (by rw [hc]; rfl))
theorem cf_ok (h130 : E 130 = some (.code c130)) {f : Nat} {a b : List GVal} (ha : a.length ≤ 1000) (hb : b.length ≤ 1000) (ih : ∀ x ∈ a, ∀ y ∈ b, lcall E f [x.arg, y.arg] [] = some (.d (.i .i64 (cmpV x y)), [])) :
  lcall E 130 [.d (.l 4 (gvalRows a)), .d (.l 4 (gvalRows b)), .d (.f f [] [])] [] = some (.d (.i .i64 (cmpL a b)), []) := by
 refine call_wx h130 ?_
 refine wx_seq (wx_region fun K hK => ?_)
 simp only [evW, evX, evM, evN, Nat.reduceAdd]
 refine hK _ _ ?_; clear hK K
 refine wx_seq (wx_seq ?_)
 refine wx_region fun K hK => ?_
 simp only [evW, evX, evM, evN, ↓reduceIte, reduceCtorEq, gvalRows_length]
 refine hK _ _ ?_; clear hK K
 refine wx_block (wx_loop ?_)
 simp only [evH, evX, evN, ↓reduceIte, Nat.reduceEqDiff, reduceCtorEq]
 refine cf_loop ha hb ih (fun tm t0 t1 hle hc => ?_) (fun tm hp t6 => ?_) a.length 0 (by omega) (by omega) rfl
 ·refine wx_seq (wx_seq ?_)
  by_cases hl : a.length < b.length
  ·have hl' : (a.length : Int) < b.length := by omega
   rw [drop_cons hl, cmpL] at hc
   refine wx_region fun K hK => ?_
   simp only [evW, evX, evM, evN, ↓reduceIte, Nat.reduceEqDiff, t0, t1, gvalRows_length, hl']
   refine hK _ _ ?_; clear hK K
   refine wx_cond true rfl (fun _ => ?_) (fun h => by cases h)
   refine wx_seq (wx_region fun K hK => ?_)
   simp only [evW, evX, evM, evN, Int.reduceNeg]
   refine hK _ _ ?_; clear hK K
   refine wx_ret ⟨.inr rfl, ?_⟩
   simp only [evR, evX, evC, evN, ↓reduceIte, far, c130, hc]
  ·have hl' : ¬ (a.length : Int) < b.length := by omega
   rw [List.drop_eq_nil_of_le (by omega), cmpL] at hc
   refine wx_region fun K hK => ?_
   simp only [evW, evX, evM, evN, ↓reduceIte, Nat.reduceEqDiff, t0, t1, gvalRows_length, hl']
   refine hK _ _ ?_; clear hK K
   refine wx_cond false rfl (fun h => by cases h) (fun _ => wx_skip ?_)
   refine wx_seq (wx_region fun K hK => ?_)
   simp only [evW, evX, evM, evN]
   refine hK _ _ ?_; clear hK K
   refine wx_ret ⟨.inr rfl, ?_⟩
   simp only [evR, evX, evC, evN, ↓reduceIte, far, c130, hc]
 ·refine ⟨.inr rfl, ?_⟩
  simp only [evR, evC, evN, far, c130, t6]
theorem or_cmp (a b : GVal) : orI [c3 (decide (a.kind < b.kind)) (decide (b.kind < a.kind)), c3 (decide (a.i < b.i)) (decide (b.i < a.i)), c3 (bytesLess a.s b.s) (!(bytesLess a.s b.s || a.s == b.s)), cmpL a.l b.l] = cmpV a b := by
 have hi : ∀ x y : Int, c3 (decide (x < y)) (decide (y < x)) = if x = y then 0 else sgn (decide (x < y)) := fun x y => by
  unfold c3 sgn
  by_cases h : x < y
  ·simp [h, show ¬ x = y by omega]
  ·by_cases h2 : y < x
   ·simp [h, h2, show ¬ x = y by omega]
   ·simp [show x = y by omega]
 have hs : ∀ x y : List UInt8, c3 (bytesLess x y) (!(bytesLess x y || x == y)) = if x = y then 0 else sgn (bytesLess x y) := fun x y => by
  unfold c3 sgn
  rcases bl_total x y with h | h | h
  ·have : x ≠ y := fun e => by rw [e, bl_irrefl] at h; cases h
   simp [h, this]
  ·subst h; simp [bl_irrefl]
  ·have h2 := bl_asymm h
   have : x ≠ y := fun e => by rw [e, bl_irrefl] at h; cases h
   simp [h2, this]
 have sg : ∀ p, sgn p ≠ 0 := fun p => by cases p <;> simp [sgn]
 have nz : ∀ z : Int, (if z = 0 then 0 else z) = z := fun z => by split <;> omega
 rw [hi, hi, hs, cmpV_eq]
 simp only [orI]
 by_cases e1 : a.kind = b.kind
 ·by_cases e2 : a.i = b.i
  ·by_cases e3 : a.s = b.s
   ·simp [e1, e2, e3, nz]
   ·simp [e1, e2, e3, sg]
  ·simp [e1, e2, sg]
 ·simp [e1, sg]
theorem cmp_ok (h114 : E 114 = some (.code c114)) (h126 : E 126 = some (.code c126)) (h130 : E 130 = some (.code c130)) (c127 : ∀ x y : Int, lcall E 127 [.d (.i .i64 x), .d (.i .i64 y)] [] = some (.d (.i .i64 (c3 (decide (x < y)) (decide (y < x)))), []))
  (c128 : ∀ x y : Int, lcall E 128 [.d (.i .i64 x), .d (.i .i64 y)] [] = some (.d (.i .i64 (c3 (decide (x < y)) (decide (y < x)))), [])) (c129 : ∀ x y : List UInt8, lcall E 129 [.d (.s x), .d (.s y)] [] = some (.d (.i .i64 (c3 (bytesLess x y) (!(bytesLess x y || x == y)))), [])) :
  ∀ (a b : GVal), Small a → Small b → lcall E 114 [a.arg, b.arg] [] = some (.d (.i .i64 (cmpV a b)), []) := by
 intro a b ha
 induction ha generalizing b with
 | @mk a hal hsub ih =>
 intro hb
 have hcf := cf_ok h130 hal hb.len (fun x hx y hy => ih x hx y (hb.sub y hy))
 have hor := or_ok h126 [c3 (decide (a.kind < b.kind)) (decide (b.kind < a.kind)), c3 (decide (a.i < b.i)) (decide (b.i < a.i)), c3 (bytesLess a.s b.s) (!(bytesLess a.s b.s || a.s == b.s)), cmpL a.l b.l] (by simp)
 rw [or_cmp] at hor
 simp only [intRows, List.map_cons, List.map_nil] at hor
 refine call_wx h114 ?_
 refine wx_seq (wx_region fun K hK => ?_)
 simp only [evW, evX, evM, evN, ↓reduceIte, Nat.reduceEqDiff, Nat.reduceAdd, reduceCtorEq]
 refine hK _ _ ?_; clear hK K
 refine wx_seq (wx_regionT fun K hK => ?_)
 simp only [evW, evX, evM, evN, evC, far, ↓reduceIte, Nat.reduceEqDiff, Nat.reduceAdd, Nat.reduceLeDiff, Nat.reduceLT, c127, c128, c129, hcf, hor]
 refine hK _ _ (by rfl) ?_; clear hK K
 refine wx_ret ⟨.inr rfl, ?_⟩
 simp only [evR, evX, evC, evN, ↓reduceIte, far, c114]
end Ab.Vx
