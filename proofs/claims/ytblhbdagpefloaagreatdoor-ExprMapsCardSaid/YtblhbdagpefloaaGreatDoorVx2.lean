/-
 How values stand: the document's answer.
-/
import Derived.Test.YtblhbdagpefloaaGreatDoorVx1
namespace Ab.Vx
open Go
set_option linter.unusedVariables false
set_option linter.unusedSimpArgs false
set_option maxRecDepth 100000
variable {E : Nat → Option Fn}
def sgn (less : Bool) : Int := if less then -1 else 1
mutual
def cmpV : GVal → GVal → Int
 | .mk k i s l, .mk k' i' s' l' => if k = k' then if i = i' then if s = s' then cmpL l l' else sgn (bytesLess s s') else sgn (decide (i < i')) else sgn (decide (k < k'))
def cmpL : List GVal → List GVal → Int
 | [], [] => 0
 | [], _ :: _ => -1
 | _ :: _, [] => 1
 | x :: xs, y :: ys => if cmpV x y = 0 then cmpL xs ys else cmpV x y
end
theorem cmpV_eq (a b : GVal) : cmpV a b = if a.kind = b.kind then if a.i = b.i then if a.s = b.s then cmpL a.l b.l else sgn (bytesLess a.s b.s) else sgn (decide (a.i < b.i)) else sgn (decide (a.kind < b.kind)) := by
 cases a; cases b; simp only [cmpV, GVal.kind, GVal.i, GVal.s, GVal.l]; rfl
inductive Small : GVal → Prop where
 | mk {v : GVal} (h : v.l.length ≤ 1000) (hs : ∀ x ∈ v.l, Small x) : Small v
theorem Small.len {v : GVal} (h : Small v) : v.l.length ≤ 1000 := by cases h; assumption
theorem Small.sub {v : GVal} (h : Small v) : ∀ x ∈ v.l, Small x := by cases h; assumption
theorem sign_ok (h131 : E 131 = some (.code c131)) (b : Bool) : lcall E 131 [.d (.b b)] [] = some (.d (.i .i64 (sgn b)), []) := by
 refine call_wx h131 ?_
 refine wx_seq (wx_region fun K hK => ?_)
 simp only [evW, evX, evM, evN]
 refine hK _ _ ?_; clear hK K
 refine wx_seq (wx_seq ?_)
 refine wx_region fun K hK => ?_
 simp only [evW, evX, evM, evN, ↓reduceIte, reduceCtorEq]
 refine hK _ _ ?_; clear hK K
 cases b with
 | true =>
  refine wx_cond true rfl (fun _ => ?_) (fun h => by cases h)
  refine wx_seq (wx_region fun K hK => ?_)
  simp only [evW, evX, evM, evN, Int.reduceNeg]
  refine hK _ _ ?_; clear hK K
  refine wx_ret ⟨.inr rfl, ?_⟩
  simp only [evR, evX, evC, evN, ↓reduceIte, far, c131, sgn]
 | false =>
  refine wx_cond false rfl (fun h => by cases h) (fun _ => ?_)
  refine wx_skip ?_
  refine wx_seq (wx_region fun K hK => ?_)
  simp only [evW, evX, evM, evN]
  refine hK _ _ ?_; clear hK K
  refine wx_ret ⟨.inr rfl, ?_⟩
  simp only [evR, evX, evC, evN, ↓reduceIte, far, c131, sgn]
theorem drop_cons {α : Type} {l : List α} {i : Nat} (h : i < l.length) : l.drop i = l[i] :: l.drop (i + 1) := List.drop_eq_getElem_cons h
abbrev vbox (v : GVal) : Option Obj := some (.box [.d (.i .i64 v.kind), .d (.i .i64 v.i), .d (.s v.s), .d (.l 4 (gvalRows v.l))])
theorem cmpL_end {a b : List GVal} {i : Nat} (h1 : i ≤ a.length) (h2 : i ≤ b.length) (h : a.length ≤ i ∨ b.length ≤ i) : cmpL (a.drop i) (b.drop i) = (if a.length = b.length then 0 else sgn (decide (a.length < b.length))) := by
 by_cases e1 : a.length = i
 ·rw [List.drop_eq_nil_of_le (show a.length ≤ i by omega)]
  by_cases e2 : b.length = i
  ·rw [List.drop_eq_nil_of_le (show b.length ≤ i by omega), if_pos (by omega)]; simp only [cmpL]
  ·rw [drop_cons (show i < b.length by omega), if_neg (by omega), cmpL, show decide (a.length < b.length) = true by simp; omega]; rfl
 ·rw [drop_cons (show i < a.length by omega), List.drop_eq_nil_of_le (show b.length ≤ i by omega), if_neg (by omega), cmpL, show decide (a.length < b.length) = false by simp; omega]; rfl
def cmpLoop : CCode := match c115.body with
 | .seq _ (.seq _ (.seq (.seq _ (.block _ (.loop _ c))) _)) => c
 | _ => .skip
theorem cmp_loop (h115 : E 115 = some (.code c115)) {a b : GVal} (ha : a.l.length ≤ 1000) (hb : b.l.length ≤ 1000) (ih : ∀ x ∈ a.l, ∀ y ∈ b.l, lcall E 115 [x.arg, y.arg] [] = some (.d (.i .i64 (cmpV x y)), []))
  {Q : Ex → St → Prop} (hx : ∀ tm, look tm 2 = .ptr 0 0 → look tm 3 = .ptr 1 0 → cmpL a.l b.l = (if a.l.length = b.l.length then 0 else sgn (decide (a.l.length < b.l.length))) → Q (.exit 1) ⟨tm, [vbox a, vbox b]⟩)
  (hr : ∀ tm, look tm 4 = .d (.i .i64 (cmpL a.l b.l)) → Q .ret ⟨tm, [vbox a, vbox b]⟩) :
  ∀ (n i : Nat), i + n = a.l.length → i ≤ b.l.length → cmpL a.l b.l = cmpL (a.l.drop i) (b.l.drop i) → LX E cmpLoop ⟨[2, 3, 5], [], [], [], [], true⟩ 2 ⟨[(2, .ptr 0 0), (3, .ptr 1 0), (5, .d (.i .i64 i))], [vbox a, vbox b]⟩ Q := by
 intro n
 induction n with
 | zero =>
  intro i hi hib hc
  have hna : ¬ ((i : Int) < a.l.length) := by omega
  have hcl := hc.trans (cmpL_end (by omega) hib (.inl (by omega)))
  refine lx_step (wx_seq (wx_seq ?_))
  refine wx_region fun K hK => ?_
  simp only [evW, evX, evM, evN, ↓reduceIte, Nat.reduceEqDiff, Nat.reduceAdd, gvalRows_length, hna]
  refine hK _ _ ?_; clear hK K
  refine wx_cond false rfl (fun h => by cases h) (fun _ => wx_exit ?_)
  exact hx _ rfl rfl hcl
 | succ n ihn =>
  intro i hi hib hc
  have hya : (i : Int) < a.l.length := by omega
  by_cases hib2 : i = b.l.length
  ·have hcl := hc.trans (cmpL_end (by omega) hib (.inr (by omega)))
   have hnb : ¬ ((i : Int) < b.l.length) := by omega
   refine lx_step (wx_seq (wx_seq ?_))
   refine wx_region fun K hK => ?_
   simp only [evW, evX, evM, evN, ↓reduceIte, Nat.reduceEqDiff, Nat.reduceAdd, gvalRows_length, hya, hnb]
   refine hK _ _ ?_; clear hK K
   refine wx_cond false rfl (fun h => by cases h) (fun _ => wx_exit ?_)
   exact hx _ rfl rfl hcl
  ·have hyb : (i : Int) < b.l.length := by omega
   have la : i < a.l.length := by omega
   have lb : i < b.l.length := by omega
   have h0 : (0 : Int) ≤ i := by omega
   have ga : (gvalRows a.l)[i]? = some (GVal.row a.l[i]) := by rw [gvalRows_get, List.getElem?_eq_getElem la]; rfl
   have gb : (gvalRows b.l)[i]? = some (GVal.row b.l[i]) := by rw [gvalRows_get, List.getElem?_eq_getElem lb]; rfl
   have hcall := ih a.l[i] (List.getElem_mem la) b.l[i] (List.getElem_mem lb)
   rw [drop_cons la, drop_cons lb, cmpL] at hc
   generalize a.l[i] = x at *
   generalize b.l[i] = y at *
   refine lx_step (wx_seq (wx_seq ?_))
   refine wx_region fun K hK => ?_
   simp only [evW, evX, evM, evN, ↓reduceIte, Nat.reduceEqDiff, Nat.reduceAdd, gvalRows_length, hya, hyb]
   refine hK _ _ ?_; clear hK K
   refine wx_cond true rfl (fun _ => wx_skip ?_) (fun h => by cases h)
   refine wx_seq (wx_block ?_)
   refine wx_seq (wx_regionT fun K hK => ?_)
   simp only [evW, evX, evM, evN, evC, far, ↓reduceIte, Nat.reduceEqDiff, Nat.reduceAdd, Nat.reduceLeDiff, h0, Int.toNat_natCast, ga, gb, row_eq, hcall]
   refine hK _ _ (by rfl) ?_; clear hK K
   by_cases hxy : cmpV x y = 0
   ·refine wx_seq (wx_region fun K hK => ?_)
    simp only [evW, evX, evM, evN, ↓reduceIte, Nat.reduceAdd, not_true_eq_false, hxy]
    refine hK _ _ ?_; clear hK K
    refine wx_cond false rfl (fun h => by cases h) (fun _ => wx_skip ?_)
    have w : IntKind.i64.wrap ((i : Int) + 1) = ((i + 1 : Nat) : Int) := by rw [i64_in (by omega) (by omega)]; omega
    rw [if_pos hxy] at hc
    refine wx_region fun K hK => ?_
    simp only [evW, evX, evM, evN, ↓reduceIte, Nat.reduceEqDiff, Nat.reduceAdd, w]
    refine hK _ _ ?_; clear hK K
    refine ⟨_, ?_, ihn (i + 1) (by omega) (by omega) hc⟩
    simp only [evH, evX, evN, ↓reduceIte, Nat.reduceEqDiff, Nat.reduceLT]
   ·refine wx_seq (wx_region fun K hK => ?_)
    simp only [evW, evX, evM, evN, ↓reduceIte, Nat.reduceAdd, not_false_eq_true, hxy]
    refine hK _ _ ?_; clear hK K
    refine wx_cond true rfl (fun _ => ?_) (fun h => by cases h)
    rw [if_neg hxy] at hc
    refine wx_seq (wx_region fun K hK => ?_)
    simp only [evW, evX, evM, evN, ↓reduceIte, Nat.reduceEqDiff, Nat.reduceAdd]
    refine hK _ _ ?_; clear hK K
    refine wx_ret ?_
    exact hr _ (by rw [hc]; rfl)
theorem refCmp_ok (h115 : E 115 = some (.code c115)) (h131 : E 131 = some (.code c131)) : ∀ (a b : GVal), Small a → Small b → lcall E 115 [a.arg, b.arg] [] = some (.d (.i .i64 (cmpV a b)), []) := by
 intro a b ha
 induction ha generalizing b with
 | @mk a hal hsub ih =>
 intro hb
 have ih' : ∀ x ∈ a.l, ∀ y ∈ b.l, lcall E 115 [x.arg, y.arg] [] = some (.d (.i .i64 (cmpV x y)), []) := fun x hx y hy => ih x hx y (hb.sub y hy)
 have sg := sign_ok h131
 refine call_wx h115 ?_
 refine wx_seq (wx_region fun K hK => ?_)
 simp only [evW, evX, evM, evN, ↓reduceIte, Nat.reduceEqDiff, Nat.reduceAdd, reduceCtorEq]
 refine hK _ _ ?_; clear hK K
 refine wx_seq (wx_block ?_)
 by_cases h1 : a.kind = b.kind
 ·refine wx_seq (wx_region fun K hK => ?_)
  simp only [evW, evX, evM, evN, ↓reduceIte, Nat.reduceEqDiff, Nat.reduceAdd, not_true_eq_false, eq_true h1]
  refine hK _ _ ?_; clear hK K
  refine wx_cond false rfl (fun h => by cases h) (fun _ => ?_)
  by_cases h2 : a.i = b.i
  ·refine wx_seq (wx_region fun K hK => ?_)
   simp only [evW, evX, evM, evN, ↓reduceIte, Nat.reduceEqDiff, Nat.reduceAdd, not_true_eq_false, eq_true h2]
   refine hK _ _ ?_; clear hK K
   refine wx_cond false rfl (fun h => by cases h) (fun _ => ?_)
   by_cases h3 : a.s = b.s
   ·refine wx_seq (wx_region fun K hK => ?_)
    simp only [evW, evX, evM, evN, ↓reduceIte, Nat.reduceEqDiff, Nat.reduceAdd, not_true_eq_false, eq_true h3]
    refine hK _ _ ?_; clear hK K
    refine wx_cond false rfl (fun h => by cases h) (fun _ => wx_skip ?_)
    have hcm : cmpV a b = cmpL a.l b.l := by rw [cmpV_eq, if_pos h1, if_pos h2, if_pos h3]
    refine wx_seq (wx_seq ?_)
    refine wx_region fun K hK => ?_
    simp only [evW, evX, evM, evN, Nat.reduceAdd]
    refine hK _ _ ?_; clear hK K
    refine wx_block (wx_loop ?_)
    simp only [evH, evX, evN, ↓reduceIte, Nat.reduceEqDiff, Nat.reduceAdd]
    refine cmp_loop h115 hal hb.len ih' (fun tm t2 t3 hc => ?_) (fun tm t4 => ?_) a.l.length 0 (by omega) (by omega) (by simp)
    ·refine wx_seq (wx_seq ?_)
     by_cases hl : a.l.length = b.l.length
     ·refine wx_region fun K hK => ?_
      simp only [evW, evX, evM, evN, ↓reduceIte, Nat.reduceEqDiff, Nat.reduceAdd, t2, t3, gvalRows_length, hl]
      refine hK _ _ ?_; clear hK K
      refine wx_cond true rfl (fun _ => ?_) (fun h => by cases h)
      refine wx_seq (wx_region fun K hK => ?_)
      simp only [evW, evX, evM, evN, Nat.reduceAdd]
      refine hK _ _ ?_; clear hK K
      refine wx_ret ⟨.inr rfl, ?_⟩
      simp only [evR, evX, evC, evN, ↓reduceIte, far, c115]
      rw [hcm, hc, if_pos hl]
     ·have hl' : ¬ (a.l.length : Int) = b.l.length := by omega
      refine wx_region fun K hK => ?_
      simp only [evW, evX, evM, evN, ↓reduceIte, Nat.reduceEqDiff, Nat.reduceAdd, t2, t3, gvalRows_length, hl']
      refine hK _ _ ?_; clear hK K
      refine wx_cond false rfl (fun h => by cases h) (fun _ => wx_skip ?_)
      refine wx_seq (wx_region fun K hK => ?_)
      simp only [evW, evX, evM, evN, evC, far, ↓reduceIte, Nat.reduceEqDiff, Nat.reduceAdd, Nat.reduceLeDiff, t2, t3, gvalRows_length, sg]
      refine hK _ _ ?_; clear hK K
      refine wx_ret ⟨.inr rfl, ?_⟩
      simp only [evR, evX, evC, evN, ↓reduceIte, far, c115]
      rw [hcm, hc, if_neg hl]
      simp
    ·refine ⟨.inr rfl, ?_⟩
     simp only [evR, evC, evN, far, c115, t4, hcm]
   ·refine wx_seq (wx_region fun K hK => ?_)
    simp only [evW, evX, evM, evN, ↓reduceIte, Nat.reduceEqDiff, Nat.reduceAdd, not_false_eq_true, h3]
    refine hK _ _ ?_; clear hK K
    refine wx_cond true rfl (fun _ => ?_) (fun h => by cases h)
    refine wx_seq (wx_region fun K hK => ?_)
    simp only [evW, evX, evM, evN, evC, far, ↓reduceIte, Nat.reduceEqDiff, Nat.reduceAdd, Nat.reduceLeDiff, sg]
    refine hK _ _ ?_; clear hK K
    refine wx_ret ⟨.inr rfl, ?_⟩
    simp only [evR, evX, evC, evN, ↓reduceIte, far, c115]
    rw [cmpV_eq, if_pos h1, if_pos h2, if_neg h3]
  ·refine wx_seq (wx_region fun K hK => ?_)
   simp only [evW, evX, evM, evN, ↓reduceIte, Nat.reduceEqDiff, Nat.reduceAdd, not_false_eq_true, h2]
   refine hK _ _ ?_; clear hK K
   refine wx_cond true rfl (fun _ => ?_) (fun h => by cases h)
   refine wx_seq (wx_region fun K hK => ?_)
   simp only [evW, evX, evM, evN, evC, far, ↓reduceIte, Nat.reduceEqDiff, Nat.reduceAdd, Nat.reduceLeDiff, sg]
   refine hK _ _ ?_; clear hK K
   refine wx_ret ⟨.inr rfl, ?_⟩
   simp only [evR, evX, evC, evN, ↓reduceIte, far, c115]
   rw [cmpV_eq, if_pos h1, if_neg h2]
 ·refine wx_seq (wx_region fun K hK => ?_)
  simp only [evW, evX, evM, evN, ↓reduceIte, Nat.reduceEqDiff, Nat.reduceAdd, not_false_eq_true, h1]
  refine hK _ _ ?_; clear hK K
  refine wx_cond true rfl (fun _ => ?_) (fun h => by cases h)
  refine wx_seq (wx_region fun K hK => ?_)
  simp only [evW, evX, evM, evN, evC, far, ↓reduceIte, Nat.reduceEqDiff, Nat.reduceAdd, Nat.reduceLeDiff, sg]
  refine hK _ _ ?_; clear hK K
  refine wx_ret ⟨.inr rfl, ?_⟩
  simp only [evR, evX, evC, evN, ↓reduceIte, far, c115]
  rw [cmpV_eq, if_neg h1]
end Ab.Vx
