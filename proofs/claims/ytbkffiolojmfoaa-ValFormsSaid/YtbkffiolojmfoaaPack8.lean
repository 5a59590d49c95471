/-
  The values of package api, and the rows of bytes that choices are read from.
-/
import Derived.Test.YtbkffiolojmfoaaPack7
import Derived.Test.YtbkffiolojmfoaaPack5
import Derived.IntWalk
set_option linter.unusedSimpArgs false
set_option linter.unusedVariables false
set_option linter.unusedSectionVars false
set_option linter.unnecessarySimpa false
namespace Ab
open Go
set_option linter.unusedVariables false

/-- a value. -/
inductive Val where
  | mk (kind i : Int) (s : List UInt8) (l : List Val)

namespace Val
def kind : Val → Int | .mk k _ _ _ => k
def i : Val → Int | .mk _ i _ _ => i
def s : Val → List UInt8 | .mk _ _ s _ => s
def l : Val → List Val | .mk _ _ _ l => l
theorem eta (v : Val) : Val.mk v.kind v.i v.s v.l = v := by cases v; rfl
end Val

mutual
def Val.row : Val → List D
  | .mk k i s l => [.i .i64 k, .i .i64 i, .s s, .l 4 (valRows l)]
def valRows : List Val → List (List D)
  | [] => []
  | x :: r => Val.row x :: valRows r
end

theorem valRows_eq : ∀ (l : List Val), valRows l = l.map Val.row
  | [] => rfl
  | x :: r => by simp [valRows, valRows_eq r]

theorem row_eq (v : Val) : v.row = [.i .i64 v.kind, .i .i64 v.i, .s v.s, .l 4 (valRows v.l)] := by cases v; rfl

theorem valRows_length (l : List Val) : (valRows l).length = l.length := by rw [valRows_eq, List.length_map]
theorem valRows_get (l : List Val) (i : Nat) : (valRows l)[i]? = (l[i]?).map Val.row := by rw [valRows_eq, List.getElem?_map]

/-- as an argument. -/
abbrev Val.arg (v : Val) : V := .agg [.d (.i .i64 v.kind), .d (.i .i64 v.i), .d (.s v.s), .d (.l 4 (valRows v.l))]

/-- bytes as cells. -/
def byteRows (l : List UInt8) : List (List D) := l.map fun c => [.i .u8 c.toNat]

theorem byteRows_length (l : List UInt8) : (byteRows l).length = l.length := by simp [byteRows]
theorem byteRows_get (l : List UInt8) (i : Nat) : (byteRows l)[i]? = (l[i]?).map fun c => [.i .u8 c.toNat] := by simp [byteRows]

theorem i64_in {n : Int} (h1 : -9223372036854775808 ≤ n) (h2 : n ≤ 9223372036854775807) : IntKind.i64.wrap n = n := Go.IntWalk.i64_in n ⟨h1, h2⟩

/-- the box of choices. -/
abbrev pbox (l : List UInt8) (n : Nat) : Option Obj := some (.box [.d (.l 1 (byteRows l)), .d (.i .i64 n)])
end Ab

/-
  Choices: Num.
-/
namespace Ab
open Go
set_option linter.unusedVariables false
set_option linter.unusedSimpArgs false
set_option maxRecDepth 100000
variable {E : Nat → Option Fn}

theorem num_ok (h123 : E 123 = some (.code c123)) (l : List UInt8) (n : Nat) (hl : l.length ≤ 1000) (hn : n ≤ l.length) (m : Int) (hm : 0 < m) :
    ∃ (k : Int) (n' : Nat), lcall E 123 [.ptr 0 0, .d (.i .i64 m)] [pbox l n] = some (.d (.i .i64 k), [pbox l n']) ∧ 0 ≤ k ∧ k < m ∧ n' ≤ l.length := by
  by_cases h : (l.length : Int) ≤ n
  · refine ⟨0, n, call_wx h123 ?_, by omega, hm, hn⟩
    refine wx_seq (wx_region fun K hK => ?_)
    simp only [evW, evX, evM, evN, ↓reduceIte, Nat.reduceEqDiff, Nat.reduceAdd]
    refine hK _ _ ?_; clear hK K
    refine wx_seq (wx_seq (wx_regionT fun K hK => ?_))
    simp only [evW, evX, evM, evN, ↓reduceIte, Nat.reduceEqDiff, Nat.reduceAdd, byteRows_length]
    refine hK _ _ (by rfl) ?_; clear hK K
    refine wx_if rfl (fun _ => ?_) (fun h' => absurd h h')
    refine wx_seq (wx_region fun K hK => ?_)
    simp only [evW, evX, evM, evN, ↓reduceIte, Nat.reduceEqDiff, Nat.reduceAdd]
    refine hK _ _ ?_; clear hK K
    refine wx_ret ⟨.inr rfl, ?_⟩
    simp only [c123, evR, evX, evC, evN, ↓reduceIte, Nat.reduceEqDiff, Nat.reduceAdd, far]
  · have hlt : n < l.length := by omega
    have w1 : IntKind.i64.wrap ((n : Int) + 1) = ((n + 1 : Nat) : Int) := by rw [i64_in (by omega) (by omega)]; omega
    have w2 : IntKind.i64.wrap (((n + 1 : Nat) : Int) - 1) = (n : Int) := by rw [i64_in (by omega) (by omega)]; omega
    have hc : (l[n].toNat : Int) < 256 := by have := l[n].toNat_lt; omega
    have w3 : IntKind.i64.wrap (l[n].toNat : Int) = (l[n].toNat : Int) := i64_in (by omega) (by omega)
    have hg : (byteRows l)[n]? = some [.i .u8 l[n].toNat] := by rw [byteRows_get, List.getElem?_eq_getElem hlt]; rfl
    have hm0 : ¬ m = 0 := by omega
    have h0 : (0 : Int) ≤ n := by omega
    refine ⟨(l[n].toNat : Int).tmod m, n + 1, call_wx h123 ?_, Int.tmod_nonneg _ (by omega), Int.tmod_lt_of_pos _ hm, by omega⟩
    refine wx_seq (wx_region fun K hK => ?_)
    simp only [evW, evX, evM, evN, ↓reduceIte, Nat.reduceEqDiff, Nat.reduceAdd]
    refine hK _ _ ?_; clear hK K
    refine wx_seq (wx_seq (wx_regionT fun K hK => ?_))
    simp only [evW, evX, evM, evN, ↓reduceIte, Nat.reduceEqDiff, Nat.reduceAdd, byteRows_length]
    refine hK _ _ (by rfl) ?_; clear hK K
    refine wx_if rfl (fun h' => absurd h' h) (fun _ => ?_)
    refine wx_skip ?_
    refine wx_seq (wx_region fun K hK => ?_)
    simp only [evW, evX, evM, evN, evC, ↓reduceIte, Nat.reduceEqDiff, Nat.reduceAdd, w1, Nat.reduceLeDiff]
    refine hK _ _ ?_; clear hK K
    refine wx_seq (wx_regionT fun K hK => ?_)
    simp only [evW, evX, evM, evN, evC, ↓reduceIte, Nat.reduceEqDiff, Nat.reduceAdd, w2, h0, Int.toNat_natCast, hg, w3, hm0]
    refine hK _ _ (by rfl) ?_; clear hK K
    refine wx_ret ⟨.inr rfl, ?_⟩
    simp only [c123, evR, evX, evC, evN, ↓reduceIte, Nat.reduceEqDiff, Nat.reduceAdd, far]
end Ab

/-
  How values stand: the document's answer.
-/
namespace Ab
open Go
set_option linter.unusedVariables false
set_option linter.unusedSimpArgs false
set_option maxRecDepth 100000
variable {E : Nat → Option Fn}

def sgn (less : Bool) : Int := if less then -1 else 1

mutual
def cmpV : Val → Val → Int
  | .mk k i s l, .mk k' i' s' l' => if k = k' then if i = i' then if s = s' then cmpL l l' else sgn (bytesLess s s') else sgn (decide (i < i')) else sgn (decide (k < k'))
def cmpL : List Val → List Val → Int
  | [], [] => 0
  | [], _ :: _ => -1
  | _ :: _, [] => 1
  | x :: xs, y :: ys => if cmpV x y = 0 then cmpL xs ys else cmpV x y
end

theorem cmpV_eq (a b : Val) : cmpV a b = if a.kind = b.kind then if a.i = b.i then if a.s = b.s then cmpL a.l b.l else sgn (bytesLess a.s b.s) else sgn (decide (a.i < b.i)) else sgn (decide (a.kind < b.kind)) := by
  cases a; cases b; simp only [cmpV, Val.kind, Val.i, Val.s, Val.l]; rfl

/-- rows that are not long, all through. -/
inductive Small : Val → Prop where
  | mk {v : Val} (h : v.l.length ≤ 1000) (hs : ∀ x ∈ v.l, Small x) : Small v

theorem Small.len {v : Val} (h : Small v) : v.l.length ≤ 1000 := by cases h; assumption
theorem Small.sub {v : Val} (h : Small v) : ∀ x ∈ v.l, Small x := by cases h; assumption

theorem sign_ok (h131 : E 131 = some (.code c131)) (b : Bool) : lcall E 131 [.d (.b b)] [] = some (.d (.i .i64 (sgn b)), []) := by
  refine call_wx h131 ?_
  refine wx_seq (wx_region fun K hK => ?_)
  simp only [evW, evX, evM, evN, evC, far, ↓reduceIte, Nat.reduceEqDiff, Nat.reduceAdd, Nat.reduceLeDiff, Nat.reduceSub, Nat.reduceLT, reduceCtorEq, not_true_eq_false, not_false_eq_true, Int.reduceEq, Int.reduceLT, Int.reduceLE, Int.reduceNeg]
  refine hK _ _ ?_; clear hK K
  refine wx_seq (wx_seq ?_)
  refine wx_region fun K hK => ?_
  simp only [evW, evX, evM, evN, evC, far, ↓reduceIte, Nat.reduceEqDiff, Nat.reduceAdd, Nat.reduceLeDiff, Nat.reduceSub, Nat.reduceLT, reduceCtorEq, not_true_eq_false, not_false_eq_true, Int.reduceEq, Int.reduceLT, Int.reduceLE, Int.reduceNeg]
  refine hK _ _ ?_; clear hK K
  cases b with
  | true =>
    refine wx_cond true rfl (fun _ => ?_) (fun h => by cases h)
    refine wx_seq (wx_region fun K hK => ?_)
    simp only [evW, evX, evM, evN, evC, far, ↓reduceIte, Nat.reduceEqDiff, Nat.reduceAdd, Nat.reduceLeDiff, Nat.reduceSub, Nat.reduceLT, reduceCtorEq, not_true_eq_false, not_false_eq_true, Int.reduceEq, Int.reduceLT, Int.reduceLE, Int.reduceNeg]
    refine hK _ _ ?_; clear hK K
    refine wx_ret ⟨.inr rfl, ?_⟩
    simp only [evR, evX, evC, evN, ↓reduceIte, Nat.reduceEqDiff, Nat.reduceAdd, Nat.reduceLeDiff, Nat.reduceLT, Nat.reduceSub, reduceCtorEq, far, c131, sgn]
  | false =>
    refine wx_cond false rfl (fun h => by cases h) (fun _ => ?_)
    refine wx_skip ?_
    refine wx_seq (wx_region fun K hK => ?_)
    simp only [evW, evX, evM, evN, evC, far, ↓reduceIte, Nat.reduceEqDiff, Nat.reduceAdd, Nat.reduceLeDiff, Nat.reduceSub, Nat.reduceLT, reduceCtorEq, not_true_eq_false, not_false_eq_true, Int.reduceEq, Int.reduceLT, Int.reduceLE, Int.reduceNeg]
    refine hK _ _ ?_; clear hK K
    refine wx_ret ⟨.inr rfl, ?_⟩
    simp only [evR, evX, evC, evN, ↓reduceIte, Nat.reduceEqDiff, Nat.reduceAdd, Nat.reduceLeDiff, Nat.reduceLT, Nat.reduceSub, reduceCtorEq, far, c131, sgn]

theorem drop_cons {α : Type} {l : List α} {i : Nat} (h : i < l.length) : l.drop i = l[i] :: l.drop (i + 1) := List.drop_eq_getElem_cons h

abbrev vbox (v : Val) : Option Obj := some (.box [.d (.i .i64 v.kind), .d (.i .i64 v.i), .d (.s v.s), .d (.l 4 (valRows v.l))])

theorem cmpL_end {a b : List Val} {i : Nat} (h1 : i ≤ a.length) (h2 : i ≤ b.length) (h : a.length ≤ i ∨ b.length ≤ i) : cmpL (a.drop i) (b.drop i) = (if a.length = b.length then 0 else sgn (decide (a.length < b.length))) := by
  by_cases e1 : a.length = i
  · rw [List.drop_eq_nil_of_le (show a.length ≤ i by omega)]
    by_cases e2 : b.length = i
    · rw [List.drop_eq_nil_of_le (show b.length ≤ i by omega), if_pos (by omega)]; simp only [cmpL]
    · rw [drop_cons (show i < b.length by omega), if_neg (by omega), cmpL, show decide (a.length < b.length) = true by simp; omega]; rfl
  · rw [drop_cons (show i < a.length by omega), List.drop_eq_nil_of_le (show b.length ≤ i by omega), if_neg (by omega), cmpL, show decide (a.length < b.length) = false by simp; omega]; rfl

def cmpLoop : CCode := match c115.body with
  | .seq _ (.seq _ (.seq (.seq _ (.block _ (.loop _ c))) _)) => c
  | _ => .skip

theorem cmp_loop (h115 : E 115 = some (.code c115)) {a b : Val} (ha : a.l.length ≤ 1000) (hb : b.l.length ≤ 1000) (ih : ∀ x ∈ a.l, ∀ y ∈ b.l, lcall E 115 [x.arg, y.arg] [] = some (.d (.i .i64 (cmpV x y)), []))
    {Q : Ex → St → Prop} (hx : ∀ tm, look tm 2 = .ptr 0 0 → look tm 3 = .ptr 1 0 → cmpL a.l b.l = (if a.l.length = b.l.length then 0 else sgn (decide (a.l.length < b.l.length))) → Q (.exit 1) ⟨tm, [vbox a, vbox b]⟩)
    (hr : ∀ tm, look tm 4 = .d (.i .i64 (cmpL a.l b.l)) → Q .ret ⟨tm, [vbox a, vbox b]⟩) :
    ∀ (n i : Nat), i + n = a.l.length → i ≤ b.l.length → cmpL a.l b.l = cmpL (a.l.drop i) (b.l.drop i) → LX E cmpLoop ⟨[2, 3, 5], [], [], [], [], true⟩ 2 ⟨[(2, .ptr 0 0), (3, .ptr 1 0), (5, .d (.i .i64 i))], [vbox a, vbox b]⟩ Q := by
  intro n
  induction n with
  | zero =>
    intro i hi hib hc
    have hna : ¬ ((i : Int) < a.l.length) := by omega
    have hcl := hc.trans (cmpL_end (by omega) hib (.inl (by omega)))
    refine lx_step (wx_seq (wx_seq ?_))
    refine wx_region fun K hK => ?_
    simp only [evW, evX, evM, evN, evC, far, ↓reduceIte, Nat.reduceEqDiff, Nat.reduceAdd, Nat.reduceLeDiff, Nat.reduceSub, Nat.reduceLT, reduceCtorEq, not_true_eq_false, not_false_eq_true, Int.reduceEq, Int.reduceLT, Int.reduceLE, Int.reduceNeg, valRows_length, hna]
    refine hK _ _ ?_; clear hK K
    refine wx_cond false rfl (fun h => by cases h) (fun _ => wx_exit ?_)
    exact hx _ rfl rfl hcl
  | succ n ihn =>
    intro i hi hib hc
    have hya : (i : Int) < a.l.length := by omega
    by_cases hib2 : i = b.l.length
    · have hcl := hc.trans (cmpL_end (by omega) hib (.inr (by omega)))
      have hnb : ¬ ((i : Int) < b.l.length) := by omega
      refine lx_step (wx_seq (wx_seq ?_))
      refine wx_region fun K hK => ?_
      simp only [evW, evX, evM, evN, evC, far, ↓reduceIte, Nat.reduceEqDiff, Nat.reduceAdd, Nat.reduceLeDiff, Nat.reduceSub, Nat.reduceLT, reduceCtorEq, not_true_eq_false, not_false_eq_true, Int.reduceEq, Int.reduceLT, Int.reduceLE, Int.reduceNeg, valRows_length, hya, hnb]
      refine hK _ _ ?_; clear hK K
      refine wx_cond false rfl (fun h => by cases h) (fun _ => wx_exit ?_)
      exact hx _ rfl rfl hcl
    · have hyb : (i : Int) < b.l.length := by omega
      have la : i < a.l.length := by omega
      have lb : i < b.l.length := by omega
      have h0 : (0 : Int) ≤ i := by omega
      have ga : (valRows a.l)[i]? = some (Val.row a.l[i]) := by rw [valRows_get, List.getElem?_eq_getElem la]; rfl
      have gb : (valRows b.l)[i]? = some (Val.row b.l[i]) := by rw [valRows_get, List.getElem?_eq_getElem lb]; rfl
      have hcall := ih a.l[i] (List.getElem_mem la) b.l[i] (List.getElem_mem lb)
      rw [drop_cons la, drop_cons lb, cmpL] at hc
      generalize a.l[i] = x at *
      generalize b.l[i] = y at *
      refine lx_step (wx_seq (wx_seq ?_))
      refine wx_region fun K hK => ?_
      simp only [evW, evX, evM, evN, evC, far, ↓reduceIte, Nat.reduceEqDiff, Nat.reduceAdd, Nat.reduceLeDiff, Nat.reduceSub, Nat.reduceLT, reduceCtorEq, not_true_eq_false, not_false_eq_true, Int.reduceEq, Int.reduceLT, Int.reduceLE, Int.reduceNeg, valRows_length, hya, hyb]
      refine hK _ _ ?_; clear hK K
      refine wx_cond true rfl (fun _ => wx_skip ?_) (fun h => by cases h)
      refine wx_seq (wx_block ?_)
      refine wx_seq (wx_regionT fun K hK => ?_)
      simp only [evW, evX, evM, evN, evC, far, ↓reduceIte, Nat.reduceEqDiff, Nat.reduceAdd, Nat.reduceLeDiff, Nat.reduceSub, Nat.reduceLT, reduceCtorEq, not_true_eq_false, not_false_eq_true, Int.reduceEq, Int.reduceLT, Int.reduceLE, Int.reduceNeg, h0, Int.toNat_natCast, ga, gb, row_eq, hcall]
      refine hK _ _ (by rfl) ?_; clear hK K
      by_cases hxy : cmpV x y = 0
      · refine wx_seq (wx_region fun K hK => ?_)
        simp only [evW, evX, evM, evN, evC, far, ↓reduceIte, Nat.reduceEqDiff, Nat.reduceAdd, Nat.reduceLeDiff, Nat.reduceSub, Nat.reduceLT, reduceCtorEq, not_true_eq_false, not_false_eq_true, Int.reduceEq, Int.reduceLT, Int.reduceLE, Int.reduceNeg, hxy]
        refine hK _ _ ?_; clear hK K
        refine wx_cond false rfl (fun h => by cases h) (fun _ => wx_skip ?_)
        have w : IntKind.i64.wrap ((i : Int) + 1) = ((i + 1 : Nat) : Int) := by rw [i64_in (by omega) (by omega)]; omega
        rw [if_pos hxy] at hc
        refine wx_region fun K hK => ?_
        simp only [evW, evX, evM, evN, evC, far, ↓reduceIte, Nat.reduceEqDiff, Nat.reduceAdd, Nat.reduceLeDiff, Nat.reduceSub, Nat.reduceLT, reduceCtorEq, not_true_eq_false, not_false_eq_true, Int.reduceEq, Int.reduceLT, Int.reduceLE, Int.reduceNeg, w]
        refine hK _ _ ?_; clear hK K
        refine ⟨_, ?_, ihn (i + 1) (by omega) (by omega) hc⟩
        simp only [evH, evX, evN, ↓reduceIte, Nat.reduceEqDiff, Nat.reduceAdd, Nat.reduceLeDiff, Nat.reduceLT, Nat.reduceSub, reduceCtorEq]
      · refine wx_seq (wx_region fun K hK => ?_)
        simp only [evW, evX, evM, evN, evC, far, ↓reduceIte, Nat.reduceEqDiff, Nat.reduceAdd, Nat.reduceLeDiff, Nat.reduceSub, Nat.reduceLT, reduceCtorEq, not_true_eq_false, not_false_eq_true, Int.reduceEq, Int.reduceLT, Int.reduceLE, Int.reduceNeg, hxy]
        refine hK _ _ ?_; clear hK K
        refine wx_cond true rfl (fun _ => ?_) (fun h => by cases h)
        rw [if_neg hxy] at hc
        refine wx_seq (wx_region fun K hK => ?_)
        simp only [evW, evX, evM, evN, evC, far, ↓reduceIte, Nat.reduceEqDiff, Nat.reduceAdd, Nat.reduceLeDiff, Nat.reduceSub, Nat.reduceLT, reduceCtorEq, not_true_eq_false, not_false_eq_true, Int.reduceEq, Int.reduceLT, Int.reduceLE, Int.reduceNeg]
        refine hK _ _ ?_; clear hK K
        refine wx_ret ?_
        exact hr _ (by rw [hc]; rfl)

theorem refCmp_ok (h115 : E 115 = some (.code c115)) (h131 : E 131 = some (.code c131)) : ∀ (a b : Val), Small a → Small b → lcall E 115 [a.arg, b.arg] [] = some (.d (.i .i64 (cmpV a b)), []) := by
  intro a b ha
  induction ha generalizing b with
  | @mk a hal hsub ih =>
  intro hb
  have ih' : ∀ x ∈ a.l, ∀ y ∈ b.l, lcall E 115 [x.arg, y.arg] [] = some (.d (.i .i64 (cmpV x y)), []) := fun x hx y hy => ih x hx y (hb.sub y hy)
  have sg := sign_ok h131
  refine call_wx h115 ?_
  refine wx_seq (wx_region fun K hK => ?_)
  simp only [evW, evX, evM, evN, evC, far, ↓reduceIte, Nat.reduceEqDiff, Nat.reduceAdd, Nat.reduceLeDiff, Nat.reduceSub, Nat.reduceLT, reduceCtorEq, not_true_eq_false, not_false_eq_true, Int.reduceEq, Int.reduceLT, Int.reduceLE, Int.reduceNeg]
  refine hK _ _ ?_; clear hK K
  refine wx_seq (wx_block ?_)
  by_cases h1 : a.kind = b.kind
  · refine wx_seq (wx_region fun K hK => ?_)
    simp only [evW, evX, evM, evN, evC, far, ↓reduceIte, Nat.reduceEqDiff, Nat.reduceAdd, Nat.reduceLeDiff, Nat.reduceSub, Nat.reduceLT, reduceCtorEq, not_true_eq_false, not_false_eq_true, Int.reduceEq, Int.reduceLT, Int.reduceLE, Int.reduceNeg, eq_true h1]
    refine hK _ _ ?_; clear hK K
    refine wx_cond false rfl (fun h => by cases h) (fun _ => ?_)
    by_cases h2 : a.i = b.i
    · refine wx_seq (wx_region fun K hK => ?_)
      simp only [evW, evX, evM, evN, evC, far, ↓reduceIte, Nat.reduceEqDiff, Nat.reduceAdd, Nat.reduceLeDiff, Nat.reduceSub, Nat.reduceLT, reduceCtorEq, not_true_eq_false, not_false_eq_true, Int.reduceEq, Int.reduceLT, Int.reduceLE, Int.reduceNeg, eq_true h2]
      refine hK _ _ ?_; clear hK K
      refine wx_cond false rfl (fun h => by cases h) (fun _ => ?_)
      by_cases h3 : a.s = b.s
      · refine wx_seq (wx_region fun K hK => ?_)
        simp only [evW, evX, evM, evN, evC, far, ↓reduceIte, Nat.reduceEqDiff, Nat.reduceAdd, Nat.reduceLeDiff, Nat.reduceSub, Nat.reduceLT, reduceCtorEq, not_true_eq_false, not_false_eq_true, Int.reduceEq, Int.reduceLT, Int.reduceLE, Int.reduceNeg, eq_true h3]
        refine hK _ _ ?_; clear hK K
        refine wx_cond false rfl (fun h => by cases h) (fun _ => wx_skip ?_)
        have hcm : cmpV a b = cmpL a.l b.l := by rw [cmpV_eq, if_pos h1, if_pos h2, if_pos h3]
        refine wx_seq (wx_seq ?_)
        refine wx_region fun K hK => ?_
        simp only [evW, evX, evM, evN, evC, far, ↓reduceIte, Nat.reduceEqDiff, Nat.reduceAdd, Nat.reduceLeDiff, Nat.reduceSub, Nat.reduceLT, reduceCtorEq, not_true_eq_false, not_false_eq_true, Int.reduceEq, Int.reduceLT, Int.reduceLE, Int.reduceNeg]
        refine hK _ _ ?_; clear hK K
        refine wx_block (wx_loop ?_)
        simp only [evH, evX, evN, ↓reduceIte, Nat.reduceEqDiff, Nat.reduceAdd, Nat.reduceLeDiff, Nat.reduceLT, Nat.reduceSub, reduceCtorEq]
        refine cmp_loop h115 hal hb.len ih' (fun tm t2 t3 hc => ?_) (fun tm t4 => ?_) a.l.length 0 (by omega) (by omega) (by simp)
        · refine wx_seq (wx_seq ?_)
          by_cases hl : a.l.length = b.l.length
          · refine wx_region fun K hK => ?_
            simp only [evW, evX, evM, evN, evC, far, ↓reduceIte, Nat.reduceEqDiff, Nat.reduceAdd, Nat.reduceLeDiff, Nat.reduceSub, Nat.reduceLT, reduceCtorEq, not_true_eq_false, not_false_eq_true, Int.reduceEq, Int.reduceLT, Int.reduceLE, Int.reduceNeg, t2, t3, valRows_length, hl]
            refine hK _ _ ?_; clear hK K
            refine wx_cond true rfl (fun _ => ?_) (fun h => by cases h)
            refine wx_seq (wx_region fun K hK => ?_)
            simp only [evW, evX, evM, evN, evC, far, ↓reduceIte, Nat.reduceEqDiff, Nat.reduceAdd, Nat.reduceLeDiff, Nat.reduceSub, Nat.reduceLT, reduceCtorEq, not_true_eq_false, not_false_eq_true, Int.reduceEq, Int.reduceLT, Int.reduceLE, Int.reduceNeg]
            refine hK _ _ ?_; clear hK K
            refine wx_ret ⟨.inr rfl, ?_⟩
            simp only [evR, evX, evC, evN, ↓reduceIte, Nat.reduceEqDiff, Nat.reduceAdd, Nat.reduceLeDiff, Nat.reduceLT, Nat.reduceSub, reduceCtorEq, far, c115]
            rw [hcm, hc, if_pos hl]
          · have hl' : ¬ (a.l.length : Int) = b.l.length := by omega
            refine wx_region fun K hK => ?_
            simp only [evW, evX, evM, evN, evC, far, ↓reduceIte, Nat.reduceEqDiff, Nat.reduceAdd, Nat.reduceLeDiff, Nat.reduceSub, Nat.reduceLT, reduceCtorEq, not_true_eq_false, not_false_eq_true, Int.reduceEq, Int.reduceLT, Int.reduceLE, Int.reduceNeg, t2, t3, valRows_length, hl']
            refine hK _ _ ?_; clear hK K
            refine wx_cond false rfl (fun h => by cases h) (fun _ => wx_skip ?_)
            refine wx_seq (wx_region fun K hK => ?_)
            simp only [evW, evX, evM, evN, evC, far, ↓reduceIte, Nat.reduceEqDiff, Nat.reduceAdd, Nat.reduceLeDiff, Nat.reduceSub, Nat.reduceLT, reduceCtorEq, not_true_eq_false, not_false_eq_true, Int.reduceEq, Int.reduceLT, Int.reduceLE, Int.reduceNeg, t2, t3, valRows_length, sg]
            refine hK _ _ ?_; clear hK K
            refine wx_ret ⟨.inr rfl, ?_⟩
            simp only [evR, evX, evC, evN, ↓reduceIte, Nat.reduceEqDiff, Nat.reduceAdd, Nat.reduceLeDiff, Nat.reduceLT, Nat.reduceSub, reduceCtorEq, far, c115]
            rw [hcm, hc, if_neg hl]
            simp
        · refine ⟨.inr rfl, ?_⟩
          simp only [evR, evX, evC, evN, ↓reduceIte, Nat.reduceEqDiff, Nat.reduceAdd, Nat.reduceLeDiff, Nat.reduceLT, Nat.reduceSub, reduceCtorEq, far, c115, t4, hcm]
      · refine wx_seq (wx_region fun K hK => ?_)
        simp only [evW, evX, evM, evN, evC, far, ↓reduceIte, Nat.reduceEqDiff, Nat.reduceAdd, Nat.reduceLeDiff, Nat.reduceSub, Nat.reduceLT, reduceCtorEq, not_true_eq_false, not_false_eq_true, Int.reduceEq, Int.reduceLT, Int.reduceLE, Int.reduceNeg, h3]
        refine hK _ _ ?_; clear hK K
        refine wx_cond true rfl (fun _ => ?_) (fun h => by cases h)
        refine wx_seq (wx_region fun K hK => ?_)
        simp only [evW, evX, evM, evN, evC, far, ↓reduceIte, Nat.reduceEqDiff, Nat.reduceAdd, Nat.reduceLeDiff, Nat.reduceSub, Nat.reduceLT, reduceCtorEq, not_true_eq_false, not_false_eq_true, Int.reduceEq, Int.reduceLT, Int.reduceLE, Int.reduceNeg, sg]
        refine hK _ _ ?_; clear hK K
        refine wx_ret ⟨.inr rfl, ?_⟩
        simp only [evR, evX, evC, evN, ↓reduceIte, Nat.reduceEqDiff, Nat.reduceAdd, Nat.reduceLeDiff, Nat.reduceLT, Nat.reduceSub, reduceCtorEq, far, c115]
        rw [cmpV_eq, if_pos h1, if_pos h2, if_neg h3]
    · refine wx_seq (wx_region fun K hK => ?_)
      simp only [evW, evX, evM, evN, evC, far, ↓reduceIte, Nat.reduceEqDiff, Nat.reduceAdd, Nat.reduceLeDiff, Nat.reduceSub, Nat.reduceLT, reduceCtorEq, not_true_eq_false, not_false_eq_true, Int.reduceEq, Int.reduceLT, Int.reduceLE, Int.reduceNeg, h2]
      refine hK _ _ ?_; clear hK K
      refine wx_cond true rfl (fun _ => ?_) (fun h => by cases h)
      refine wx_seq (wx_region fun K hK => ?_)
      simp only [evW, evX, evM, evN, evC, far, ↓reduceIte, Nat.reduceEqDiff, Nat.reduceAdd, Nat.reduceLeDiff, Nat.reduceSub, Nat.reduceLT, reduceCtorEq, not_true_eq_false, not_false_eq_true, Int.reduceEq, Int.reduceLT, Int.reduceLE, Int.reduceNeg, sg]
      refine hK _ _ ?_; clear hK K
      refine wx_ret ⟨.inr rfl, ?_⟩
      simp only [evR, evX, evC, evN, ↓reduceIte, Nat.reduceEqDiff, Nat.reduceAdd, Nat.reduceLeDiff, Nat.reduceLT, Nat.reduceSub, reduceCtorEq, far, c115]
      rw [cmpV_eq, if_pos h1, if_neg h2]
  · refine wx_seq (wx_region fun K hK => ?_)
    simp only [evW, evX, evM, evN, evC, far, ↓reduceIte, Nat.reduceEqDiff, Nat.reduceAdd, Nat.reduceLeDiff, Nat.reduceSub, Nat.reduceLT, reduceCtorEq, not_true_eq_false, not_false_eq_true, Int.reduceEq, Int.reduceLT, Int.reduceLE, Int.reduceNeg, h1]
    refine hK _ _ ?_; clear hK K
    refine wx_cond true rfl (fun _ => ?_) (fun h => by cases h)
    refine wx_seq (wx_region fun K hK => ?_)
    simp only [evW, evX, evM, evN, evC, far, ↓reduceIte, Nat.reduceEqDiff, Nat.reduceAdd, Nat.reduceLeDiff, Nat.reduceSub, Nat.reduceLT, reduceCtorEq, not_true_eq_false, not_false_eq_true, Int.reduceEq, Int.reduceLT, Int.reduceLE, Int.reduceNeg, sg]
    refine hK _ _ ?_; clear hK K
    refine wx_ret ⟨.inr rfl, ?_⟩
    simp only [evR, evX, evC, evN, ↓reduceIte, Nat.reduceEqDiff, Nat.reduceAdd, Nat.reduceLeDiff, Nat.reduceLT, Nat.reduceSub, reduceCtorEq, far, c115]
    rw [cmpV_eq, if_neg h1]
end Ab

/-
  How values stand, how great they are: the document's answer, and the program's size.
-/
namespace Ab
open Go
set_option linter.unusedVariables false
set_option linter.unusedSimpArgs false
set_option maxRecDepth 100000
variable {E : Nat → Option Fn}

theorem same_ok (h121 : E 121 = some (.code c121)) (hc : ∀ (a b : Val), Small a → Small b → lcall E 115 [a.arg, b.arg] [] = some (.d (.i .i64 (cmpV a b)), [])) (a b : Val) (ha : Small a) (hb : Small b) :
    lcall E 121 [a.arg, b.arg] [] = some (.d (.b (decide (cmpV a b = 0))), []) := by
  have hab := hc a b ha hb
  refine call_wx h121 ?_
  refine wx_seq (wx_region fun K hK => ?_)
  simp only [evW, evX, evM, evN, evC, far, ↓reduceIte, Nat.reduceEqDiff, Nat.reduceAdd, Nat.reduceLeDiff, Nat.reduceSub, Nat.reduceLT, reduceCtorEq, not_true_eq_false, not_false_eq_true, Int.reduceEq, Int.reduceLT, Int.reduceLE, Int.reduceNeg]
  refine hK _ _ ?_; clear hK K
  refine wx_seq (wx_region fun K hK => ?_)
  simp only [evW, evX, evM, evN, evC, far, ↓reduceIte, Nat.reduceEqDiff, Nat.reduceAdd, Nat.reduceLeDiff, Nat.reduceSub, Nat.reduceLT, reduceCtorEq, not_true_eq_false, not_false_eq_true, Int.reduceEq, Int.reduceLT, Int.reduceLE, Int.reduceNeg, hab]
  refine hK _ _ ?_; clear hK K
  refine wx_ret ⟨.inr rfl, ?_⟩
  simp only [evR, evX, evC, evN, ↓reduceIte, Nat.reduceEqDiff, Nat.reduceAdd, Nat.reduceLeDiff, Nat.reduceLT, Nat.reduceSub, reduceCtorEq, far, c121]

theorem sameVals_ok (h118 : E 118 = some (.code c118)) (hs : ∀ (a b : Val), Small a → Small b → lcall E 121 [a.arg, b.arg] [] = some (.d (.b (decide (cmpV a b = 0))), [])) (a b : List Val) (ha : Small (.mk 0 0 [] a)) (hb : Small (.mk 0 0 [] b)) :
    lcall E 118 [.d (.l 4 (valRows a)), .d (.l 4 (valRows b))] [] = some (.d (.b (decide (cmpL a b = 0))), []) := by
  have hab := hs _ _ ha hb
  simp only [Val.arg, Val.kind, Val.i, Val.s, Val.l] at hab
  rw [show cmpV (.mk 0 0 [] a) (.mk 0 0 [] b) = cmpL a b by simp only [cmpV, if_true]] at hab
  refine call_wx h118 ?_
  refine wx_seq (wx_region fun K hK => ?_)
  simp only [evW, evX, evM, evN, evC, far, ↓reduceIte, Nat.reduceEqDiff, Nat.reduceAdd, Nat.reduceLeDiff, Nat.reduceSub, Nat.reduceLT, reduceCtorEq, not_true_eq_false, not_false_eq_true, Int.reduceEq, Int.reduceLT, Int.reduceLE, Int.reduceNeg]
  refine hK _ _ ?_; clear hK K
  refine wx_seq (wx_region fun K hK => ?_)
  simp only [evW, evX, evM, evN, evC, far, ↓reduceIte, Nat.reduceEqDiff, Nat.reduceAdd, Nat.reduceLeDiff, Nat.reduceSub, Nat.reduceLT, reduceCtorEq, not_true_eq_false, not_false_eq_true, Int.reduceEq, Int.reduceLT, Int.reduceLE, Int.reduceNeg, hab]
  refine hK _ _ ?_; clear hK K
  refine wx_ret ⟨.inr rfl, ?_⟩
  simp only [evR, evX, evC, evN, ↓reduceIte, Nat.reduceEqDiff, Nat.reduceAdd, Nat.reduceLeDiff, Nat.reduceLT, Nat.reduceSub, reduceCtorEq, far, c118]

abbrev W64 (n : Int) : Int := IntKind.i64.wrap n

mutual
def sizeV : Val → Int
  | .mk k i s l => sizeL (W64 (1 + W64 ((s.length : Int).tdiv 16))) l
def sizeL : Int → List Val → Int
  | n, [] => n
  | n, x :: r => sizeL (W64 (n + sizeV x)) r
end

theorem sizeV_eq (v : Val) : sizeV v = sizeL (W64 (1 + W64 ((v.s.length : Int).tdiv 16))) v.l := by cases v; simp only [sizeV, Val.s, Val.l]

def sizeLoop : CCode := match c113.body with
  | .seq _ (.seq _ (.seq (.seq _ (.block _ (.loop _ c))) _)) => c
  | _ => .skip

theorem size_loop {v : Val} (hv : v.l.length ≤ 1000) (ih : ∀ x ∈ v.l, lcall E 113 [x.arg] [] = some (.d (.i .i64 (sizeV x)), [])) {T : Int} {Q : Ex → St → Prop} (hx : ∀ tm, look tm 3 = .d (.i .i64 T) → Q (.exit 0) ⟨tm, [vbox v]⟩) :
    ∀ (n i : Nat) (acc : Int), i + n = v.l.length → sizeL acc (v.l.drop i) = T → LX E sizeLoop ⟨[1, 3, 4], [], [], [], [], true⟩ 1 ⟨[(1, .ptr 0 0), (3, .d (.i .i64 acc)), (4, .d (.i .i64 i))], [vbox v]⟩ Q := by
  intro n
  induction n with
  | zero =>
    intro i acc hi hT
    have hn : ¬ ((i : Int) < v.l.length) := by omega
    rw [List.drop_eq_nil_of_le (by omega), sizeL] at hT
    refine lx_step (wx_seq (wx_seq ?_))
    refine wx_region fun K hK => ?_
    simp only [evW, evX, evM, evN, evC, far, ↓reduceIte, Nat.reduceEqDiff, Nat.reduceAdd, Nat.reduceLeDiff, Nat.reduceSub, Nat.reduceLT, reduceCtorEq, not_true_eq_false, not_false_eq_true, Int.reduceEq, Int.reduceLT, Int.reduceLE, Int.reduceNeg, valRows_length, hn]
    refine hK _ _ ?_; clear hK K
    refine wx_cond false rfl (fun h => by cases h) (fun _ => wx_exit ?_)
    exact hx _ (by rw [← hT]; rfl)
  | succ n ihn =>
    intro i acc hi hT
    have hy : (i : Int) < v.l.length := by omega
    have la : i < v.l.length := by omega
    have h0 : (0 : Int) ≤ i := by omega
    have ga : (valRows v.l)[i]? = some (Val.row v.l[i]) := by rw [valRows_get, List.getElem?_eq_getElem la]; rfl
    have hcall := ih v.l[i] (List.getElem_mem la)
    rw [drop_cons la, sizeL] at hT
    generalize v.l[i] = x at *
    have w : IntKind.i64.wrap ((i : Int) + 1) = ((i + 1 : Nat) : Int) := by rw [i64_in (by omega) (by omega)]; omega
    refine lx_step (wx_seq (wx_seq ?_))
    refine wx_region fun K hK => ?_
    simp only [evW, evX, evM, evN, evC, far, ↓reduceIte, Nat.reduceEqDiff, Nat.reduceAdd, Nat.reduceLeDiff, Nat.reduceSub, Nat.reduceLT, reduceCtorEq, not_true_eq_false, not_false_eq_true, Int.reduceEq, Int.reduceLT, Int.reduceLE, Int.reduceNeg, valRows_length, hy]
    refine hK _ _ ?_; clear hK K
    refine wx_cond true rfl (fun _ => wx_skip ?_) (fun h => by cases h)
    refine wx_seq (wx_block ?_)
    refine wx_region fun K hK => ?_
    simp only [evW, evX, evM, evN, evC, far, ↓reduceIte, Nat.reduceEqDiff, Nat.reduceAdd, Nat.reduceLeDiff, Nat.reduceSub, Nat.reduceLT, reduceCtorEq, not_true_eq_false, not_false_eq_true, Int.reduceEq, Int.reduceLT, Int.reduceLE, Int.reduceNeg, h0, Int.toNat_natCast, ga, row_eq, hcall]
    refine hK _ _ ?_; clear hK K
    refine wx_region fun K hK => ?_
    simp only [evW, evX, evM, evN, evC, far, ↓reduceIte, Nat.reduceEqDiff, Nat.reduceAdd, Nat.reduceLeDiff, Nat.reduceSub, Nat.reduceLT, reduceCtorEq, not_true_eq_false, not_false_eq_true, Int.reduceEq, Int.reduceLT, Int.reduceLE, Int.reduceNeg, w]
    refine hK _ _ ?_; clear hK K
    refine ⟨_, ?_, ihn (i + 1) _ (by omega) hT⟩
    simp only [evH, evX, evN, ↓reduceIte, Nat.reduceEqDiff, Nat.reduceAdd, Nat.reduceLeDiff, Nat.reduceLT, Nat.reduceSub, reduceCtorEq]

theorem refSize_ok (h113 : E 113 = some (.code c113)) : ∀ (v : Val), Small v → lcall E 113 [v.arg] [] = some (.d (.i .i64 (sizeV v)), []) := by
  intro v hs
  induction hs with
  | @mk v hl hsub ih =>
  refine call_wx h113 ?_
  refine wx_seq (wx_region fun K hK => ?_)
  simp only [evW, evX, evM, evN, evC, far, ↓reduceIte, Nat.reduceEqDiff, Nat.reduceAdd, Nat.reduceLeDiff, Nat.reduceSub, Nat.reduceLT, reduceCtorEq, not_true_eq_false, not_false_eq_true, Int.reduceEq, Int.reduceLT, Int.reduceLE, Int.reduceNeg]
  refine hK _ _ ?_; clear hK K
  refine wx_seq (wx_region fun K hK => ?_)
  simp only [evW, evX, evM, evN, evC, far, ↓reduceIte, Nat.reduceEqDiff, Nat.reduceAdd, Nat.reduceLeDiff, Nat.reduceSub, Nat.reduceLT, reduceCtorEq, not_true_eq_false, not_false_eq_true, Int.reduceEq, Int.reduceLT, Int.reduceLE, Int.reduceNeg]
  refine hK _ _ ?_; clear hK K
  refine wx_seq (wx_seq ?_)
  refine wx_region fun K hK => ?_
  simp only [evW, evX, evM, evN, evC, far, ↓reduceIte, Nat.reduceEqDiff, Nat.reduceAdd, Nat.reduceLeDiff, Nat.reduceSub, Nat.reduceLT, reduceCtorEq, not_true_eq_false, not_false_eq_true, Int.reduceEq, Int.reduceLT, Int.reduceLE, Int.reduceNeg]
  refine hK _ _ ?_; clear hK K
  refine wx_block (wx_loop ?_)
  simp only [evH, evX, evN, ↓reduceIte, Nat.reduceEqDiff, Nat.reduceAdd, Nat.reduceLeDiff, Nat.reduceLT, Nat.reduceSub, reduceCtorEq]
  refine size_loop hl ih (fun tm t3 => ?_) v.l.length 0 _ (by omega) rfl
  refine wx_seq (wx_region fun K hK => ?_)
  simp only [evW, evX, evM, evN, evC, far, ↓reduceIte, Nat.reduceEqDiff, Nat.reduceAdd, Nat.reduceLeDiff, Nat.reduceSub, Nat.reduceLT, reduceCtorEq, not_true_eq_false, not_false_eq_true, Int.reduceEq, Int.reduceLT, Int.reduceLE, Int.reduceNeg, t3]
  refine hK _ _ ?_; clear hK K
  refine wx_ret ⟨.inr rfl, ?_⟩
  simp only [evR, evX, evC, evN, ↓reduceIte, Nat.reduceEqDiff, Nat.reduceAdd, Nat.reduceLeDiff, Nat.reduceLT, Nat.reduceSub, reduceCtorEq, far, c113, sizeV_eq, List.drop_zero]

def sizeLoop2 : CCode := match c112.body with
  | .seq _ (.seq _ (.seq (.seq _ (.block _ (.loop _ c))) _)) => c
  | _ => .skip

theorem size_loop2 {v : Val} (hv : v.l.length ≤ 1000) (ih : ∀ x ∈ v.l, lcall E 112 [x.arg] [] = some (.d (.i .i64 (sizeV x)), [])) {T : Int} {Q : Ex → St → Prop} (hx : ∀ tm, look tm 3 = .d (.i .i64 T) → Q (.exit 0) ⟨tm, [vbox v]⟩) :
    ∀ (n i : Nat) (acc : Int), i + n = v.l.length → sizeL acc (v.l.drop i) = T → LX E sizeLoop2 ⟨[3, 12, 13, 14], [], [], [], [], true⟩ 1 ⟨[(3, .d (.i .i64 acc)), (12, .d (.l 4 (valRows v.l))), (13, .d (.i .i64 v.l.length)), (14, .d (.i .i64 i))], [vbox v]⟩ Q := by
  intro n
  induction n with
  | zero =>
    intro i acc hi hT
    have hn : ¬ ((i : Int) < v.l.length) := by omega
    rw [List.drop_eq_nil_of_le (by omega), sizeL] at hT
    refine lx_step ?_
    refine wx_seq (wx_region fun K hK => ?_)
    simp only [evW, evX, evM, evN, evC, far, ↓reduceIte, Nat.reduceEqDiff, Nat.reduceAdd, Nat.reduceLeDiff, Nat.reduceSub, Nat.reduceLT, reduceCtorEq, not_true_eq_false, not_false_eq_true, Int.reduceEq, Int.reduceLT, Int.reduceLE, Int.reduceNeg, hn]
    refine hK _ _ ?_; clear hK K
    refine wx_seq (wx_cond false rfl (fun h => by cases h) (fun _ => wx_exit ?_))
    exact hx _ (by rw [← hT]; rfl)
  | succ n ihn =>
    intro i acc hi hT
    have hy : (i : Int) < v.l.length := by omega
    have la : i < v.l.length := by omega
    have h0 : (0 : Int) ≤ i := by omega
    have ga : (valRows v.l)[i]? = some (Val.row v.l[i]) := by rw [valRows_get, List.getElem?_eq_getElem la]; rfl
    have hcall := ih v.l[i] (List.getElem_mem la)
    rw [drop_cons la, sizeL] at hT
    generalize v.l[i] = x at *
    have w : IntKind.i64.wrap ((i : Int) + 1) = ((i + 1 : Nat) : Int) := by rw [i64_in (by omega) (by omega)]; omega
    refine lx_step ?_
    refine wx_seq (wx_region fun K hK => ?_)
    simp only [evW, evX, evM, evN, evC, far, ↓reduceIte, Nat.reduceEqDiff, Nat.reduceAdd, Nat.reduceLeDiff, Nat.reduceSub, Nat.reduceLT, reduceCtorEq, not_true_eq_false, not_false_eq_true, Int.reduceEq, Int.reduceLT, Int.reduceLE, Int.reduceNeg, hy]
    refine hK _ _ ?_; clear hK K
    refine wx_seq (wx_cond true rfl (fun _ => wx_skip ?_) (fun h => by cases h))
    refine wx_seq (wx_block (wx_seq ?_))
    refine wx_region fun K hK => ?_
    simp only [evW, evX, evM, evN, evC, far, ↓reduceIte, Nat.reduceEqDiff, Nat.reduceAdd, Nat.reduceLeDiff, Nat.reduceSub, Nat.reduceLT, reduceCtorEq, not_true_eq_false, not_false_eq_true, Int.reduceEq, Int.reduceLT, Int.reduceLE, Int.reduceNeg, h0, Int.toNat_natCast, ga, row_eq]
    refine hK _ _ ?_; clear hK K
    refine wx_region fun K hK => ?_
    simp only [evW, evX, evM, evN, evC, far, ↓reduceIte, Nat.reduceEqDiff, Nat.reduceAdd, Nat.reduceLeDiff, Nat.reduceSub, Nat.reduceLT, reduceCtorEq, not_true_eq_false, not_false_eq_true, Int.reduceEq, Int.reduceLT, Int.reduceLE, Int.reduceNeg, hcall]
    refine hK _ _ ?_; clear hK K
    refine wx_region fun K hK => ?_
    simp only [evW, evX, evM, evN, evC, far, ↓reduceIte, Nat.reduceEqDiff, Nat.reduceAdd, Nat.reduceLeDiff, Nat.reduceSub, Nat.reduceLT, reduceCtorEq, not_true_eq_false, not_false_eq_true, Int.reduceEq, Int.reduceLT, Int.reduceLE, Int.reduceNeg, w]
    refine hK _ _ ?_; clear hK K
    refine ⟨_, ?_, ihn (i + 1) _ (by omega) hT⟩
    simp only [evH, evX, evN, ↓reduceIte, Nat.reduceEqDiff, Nat.reduceAdd, Nat.reduceLeDiff, Nat.reduceLT, Nat.reduceSub, reduceCtorEq]

theorem size_ok (h112 : E 112 = some (.code c112)) : ∀ (v : Val), Small v → lcall E 112 [v.arg] [] = some (.d (.i .i64 (sizeV v)), []) := by
  intro v hs
  induction hs with
  | @mk v hl hsub ih =>
  refine call_wx h112 ?_
  refine wx_seq (wx_region fun K hK => ?_)
  simp only [evW, evX, evM, evN, evC, far, ↓reduceIte, Nat.reduceEqDiff, Nat.reduceAdd, Nat.reduceLeDiff, Nat.reduceSub, Nat.reduceLT, reduceCtorEq, not_true_eq_false, not_false_eq_true, Int.reduceEq, Int.reduceLT, Int.reduceLE, Int.reduceNeg]
  refine hK _ _ ?_; clear hK K
  refine wx_seq (wx_region fun K hK => ?_)
  simp only [evW, evX, evM, evN, evC, far, ↓reduceIte, Nat.reduceEqDiff, Nat.reduceAdd, Nat.reduceLeDiff, Nat.reduceSub, Nat.reduceLT, reduceCtorEq, not_true_eq_false, not_false_eq_true, Int.reduceEq, Int.reduceLT, Int.reduceLE, Int.reduceNeg]
  refine hK _ _ ?_; clear hK K
  refine wx_seq (wx_seq ?_)
  refine wx_region fun K hK => ?_
  simp only [evW, evX, evM, evN, evC, far, ↓reduceIte, Nat.reduceEqDiff, Nat.reduceAdd, Nat.reduceLeDiff, Nat.reduceSub, Nat.reduceLT, reduceCtorEq, not_true_eq_false, not_false_eq_true, Int.reduceEq, Int.reduceLT, Int.reduceLE, Int.reduceNeg, valRows_length]
  refine hK _ _ ?_; clear hK K
  refine wx_block (wx_loop ?_)
  simp only [evH, evX, evN, ↓reduceIte, Nat.reduceEqDiff, Nat.reduceAdd, Nat.reduceLeDiff, Nat.reduceLT, Nat.reduceSub, reduceCtorEq]
  refine size_loop2 hl ih (fun tm t3 => ?_) v.l.length 0 _ (by omega) rfl
  refine wx_seq (wx_region fun K hK => ?_)
  simp only [evW, evX, evM, evN, evC, far, ↓reduceIte, Nat.reduceEqDiff, Nat.reduceAdd, Nat.reduceLeDiff, Nat.reduceSub, Nat.reduceLT, reduceCtorEq, not_true_eq_false, not_false_eq_true, Int.reduceEq, Int.reduceLT, Int.reduceLE, Int.reduceNeg, t3]
  refine hK _ _ ?_; clear hK K
  refine wx_ret ⟨.inr rfl, ?_⟩
  simp only [evR, evX, evC, evN, ↓reduceIte, Nat.reduceEqDiff, Nat.reduceAdd, Nat.reduceLeDiff, Nat.reduceLT, Nat.reduceSub, reduceCtorEq, far, c112, sizeV_eq, List.drop_zero]

/-! ### sizes as they are -/

mutual
def szN : Val → Nat
  | .mk k i s l => 1 + s.length / 16 + szL l
def szL : List Val → Nat
  | [] => 0
  | x :: r => szN x + szL r
end

theorem szN_eq (v : Val) : szN v = 1 + v.s.length / 16 + szL v.l := by cases v; simp only [szN, Val.s, Val.l]

theorem szL_mem : ∀ {l : List Val} {x : Val}, x ∈ l → szN x ≤ szL l
  | y :: r, x, h => by
    simp only [szL]
    rcases List.mem_cons.1 h with rfl | h
    · omega
    · have := szL_mem h; omega

theorem szN_sub {v x : Val} (h : x ∈ v.l) : szN x < szN v := by
  have := szL_mem h
  rw [szN_eq v]; omega

theorem sizeL_fit : ∀ (l : List Val) (n : Nat), n + szL l ≤ 1000000000000 → (∀ x ∈ l, sizeV x = szN x) → sizeL (n : Int) l = ((n + szL l : Nat) : Int)
  | [], n, _, _ => by simp [sizeL, szL]
  | x :: r, n, h, hx => by
    simp only [szL] at h
    simp only [sizeL, szL]
    rw [hx x (by simp)]
    have : W64 ((n : Int) + (szN x : Int)) = ((n + szN x : Nat) : Int) := by
      show IntKind.i64.wrap _ = _
      rw [i64_in (by omega) (by omega)]; omega
    rw [this, sizeL_fit r (n + szN x) (by omega) (fun y hy => hx y (by simp [hy]))]
    congr 1; omega

theorem sizeV_fit : ∀ (v : Val), szN v ≤ 1000000000000 → sizeV v = szN v := by
  have main : ∀ (n : Nat) (v : Val), szN v < n → szN v ≤ 1000000000000 → sizeV v = szN v := by
    intro n
    induction n with
    | zero => intro v h; omega
    | succ n ih =>
      intro v hn hv
      have hsub : ∀ x ∈ v.l, sizeV x = szN x := fun x hx => by
        have := szN_sub hx
        exact ih x (by omega) (by omega)
      rw [sizeV_eq]
      rw [szN_eq] at hv ⊢
      have h1 : W64 ((v.s.length : Int).tdiv 16) = ((v.s.length / 16 : Nat) : Int) := by
        show IntKind.i64.wrap _ = _
        have : (v.s.length : Int).tdiv 16 = ((v.s.length / 16 : Nat) : Int) := by
          rw [Int.tdiv_eq_ediv_of_nonneg (by omega)]; omega
        rw [this, i64_in (by omega) (by omega)]
      have h2 : W64 (1 + ((v.s.length / 16 : Nat) : Int)) = ((1 + v.s.length / 16 : Nat) : Int) := by
        show IntKind.i64.wrap _ = _
        rw [i64_in (by omega) (by omega)]; omega
      rw [h1, h2, sizeL_fit _ _ hv hsub]
  exact fun v h => main _ v (Nat.lt_succ_self _) h
end Ab

/-
  Rows of values: the document's Find and Ins.
-/
namespace Ab
open Go
set_option linter.unusedVariables false
set_option linter.unusedSimpArgs false
set_option maxRecDepth 100000
variable {E : Nat → Option Fn}

def keyV (v : Val) : List UInt8 := match v.l with | [] => [] | x :: _ => x.s

theorem key_ok {k : Nat} {n : CFn} (hk : E k = some (.code n)) (hn : n = c138) (v : Val) : lcall E k [v.arg] [] = some (.d (.s (keyV v)), []) := by
  subst hn
  refine call_wx hk ?_
  refine wx_seq (wx_region fun K hK => ?_)
  simp only [evW, evX, evM, evN, evC, far, ↓reduceIte, Nat.reduceEqDiff, Nat.reduceAdd, Nat.reduceLeDiff, Nat.reduceSub, Nat.reduceLT, reduceCtorEq, not_true_eq_false, not_false_eq_true, Int.reduceEq, Int.reduceLT, Int.reduceLE, Int.reduceNeg]
  refine hK _ _ ?_; clear hK K
  refine wx_seq (wx_seq ?_)
  cases hl : v.l with
  | nil =>
    refine wx_region fun K hK => ?_
    simp only [evW, evX, evM, evN, evC, far, ↓reduceIte, Nat.reduceEqDiff, Nat.reduceAdd, Nat.reduceLeDiff, Nat.reduceSub, Nat.reduceLT, reduceCtorEq, not_true_eq_false, not_false_eq_true, Int.reduceEq, Int.reduceLT, Int.reduceLE, Int.reduceNeg, valRows, hl]
    refine hK _ _ ?_; clear hK K
    refine wx_cond true rfl (fun _ => ?_) (fun h => by cases h)
    refine wx_seq (wx_region fun K hK => ?_)
    simp only [evW, evX, evM, evN, evC, far, ↓reduceIte, Nat.reduceEqDiff, Nat.reduceAdd, Nat.reduceLeDiff, Nat.reduceSub, Nat.reduceLT, reduceCtorEq, not_true_eq_false, not_false_eq_true, Int.reduceEq, Int.reduceLT, Int.reduceLE, Int.reduceNeg]
    refine hK _ _ ?_; clear hK K
    refine wx_ret ⟨.inr rfl, ?_⟩
    simp only [evR, evX, evC, evN, ↓reduceIte, Nat.reduceEqDiff, Nat.reduceAdd, Nat.reduceLeDiff, Nat.reduceLT, Nat.reduceSub, reduceCtorEq, far, c138, keyV, hl]
  | cons x r =>
    have hne : ¬ ((r.length : Int) + 1 = 0) := by omega
    refine wx_region fun K hK => ?_
    simp only [evW, evX, evM, evN, evC, far, ↓reduceIte, Nat.reduceEqDiff, Nat.reduceAdd, Nat.reduceLeDiff, Nat.reduceSub, Nat.reduceLT, reduceCtorEq, not_true_eq_false, not_false_eq_true, Int.reduceEq, Int.reduceLT, Int.reduceLE, Int.reduceNeg, valRows, hl, valRows_length, Int.natCast_add, Int.cast_ofNat_Int, hne]
    refine hK _ _ ?_; clear hK K
    refine wx_cond false rfl (fun h => by cases h) (fun _ => wx_skip ?_)
    refine wx_seq (wx_region fun K hK => ?_)
    simp only [evW, evX, evM, evN, evC, far, ↓reduceIte, Nat.reduceEqDiff, Nat.reduceAdd, Nat.reduceLeDiff, Nat.reduceSub, Nat.reduceLT, reduceCtorEq, not_true_eq_false, not_false_eq_true, Int.reduceEq, Int.reduceLT, Int.reduceLE, Int.reduceNeg, Int.toNat_zero, row_eq, Std.le_refl]
    refine hK _ _ ?_; clear hK K
    refine wx_ret ⟨.inr rfl, ?_⟩
    simp only [evR, evX, evC, evN, ↓reduceIte, Nat.reduceEqDiff, Nat.reduceAdd, Nat.reduceLeDiff, Nat.reduceLT, Nat.reduceSub, reduceCtorEq, far, c138, keyV, hl]

theorem valRows_append (a b : List Val) : valRows (a ++ b) = valRows a ++ valRows b := by simp [valRows_eq]
theorem valRows_take (a : List Val) (n : Nat) : (valRows a).take n = valRows (a.take n) := by simp [valRows_eq, List.map_take]
theorem valRows_drop (a : List Val) (n : Nat) : (valRows a).drop n = valRows (a.drop n) := by simp [valRows_eq, List.map_drop]

/-- the first whose key is not less. -/
def posK (k : List UInt8) : List Val → Nat
  | [] => 0
  | x :: r => if bytesLess (keyV x) k then posK k r + 1 else 0

def hasK (k : List UInt8) (l : List Val) : Bool := match l[posK k l]? with
  | some x => decide (0 < x.l.length) && decide (keyV x = k)
  | none => false

theorem posK_le (k : List UInt8) : ∀ (l : List Val), posK k l ≤ l.length
  | [] => Nat.le_refl _
  | x :: r => by
    simp only [posK]
    split
    · simpa using posK_le k r
    · exact Nat.zero_le _

def findLoop : CCode := match c120.body with
  | .seq _ (.seq _ (.seq (.block _ (.loop _ c)) _)) => c
  | _ => .skip

theorem find_loop (hkey : ∀ v : Val, lcall E 138 [v.arg] [] = some (.d (.s (keyV v)), [])) {l : List Val} (hl : l.length ≤ 1000) (k : List UInt8) {Q : Ex → St → Prop}
    (hx : ∀ tm, look tm 0 = .d (.l 4 (valRows l)) → look tm 1 = .d (.s k) → look tm 6 = .d (.i .i64 (posK k l : Nat)) → Q (.exit 0) ⟨tm, []⟩) :
    ∀ (n i : Nat), i + n = l.length → posK k l = i + posK k (l.drop i) → LX E findLoop ⟨[0, 1, 6], [], [], [], [], true⟩ 0 ⟨[(0, .d (.l 4 (valRows l))), (1, .d (.s k)), (6, .d (.i .i64 i))], []⟩ Q := by
  intro n
  induction n with
  | zero =>
    intro i hi hp
    have hn : ¬ ((i : Int) < l.length) := by omega
    rw [List.drop_eq_nil_of_le (by omega), posK, Nat.add_zero] at hp
    refine lx_step (wx_seq (wx_seq ?_))
    refine wx_region fun K hK => ?_
    simp only [evW, evX, evM, evN, evC, far, ↓reduceIte, Nat.reduceEqDiff, Nat.reduceAdd, Nat.reduceLeDiff, Nat.reduceSub, Nat.reduceLT, reduceCtorEq, not_true_eq_false, not_false_eq_true, Int.reduceEq, Int.reduceLT, Int.reduceLE, Int.reduceNeg, valRows_length, hn]
    refine hK _ _ ?_; clear hK K
    refine wx_cond false rfl (fun h => by cases h) (fun _ => wx_exit ?_)
    exact hx _ rfl rfl (by rw [hp]; rfl)
  | succ n ihn =>
    intro i hi hp
    have hy : (i : Int) < l.length := by omega
    have la : i < l.length := by omega
    have h0 : (0 : Int) ≤ i := by omega
    have ga : (valRows l)[i]? = some (Val.row l[i]) := by rw [valRows_get, List.getElem?_eq_getElem la]; rfl
    rw [drop_cons la, posK] at hp
    have hcall := hkey l[i]
    generalize l[i] = x at *
    have w : IntKind.i64.wrap ((i : Int) + 1) = ((i + 1 : Nat) : Int) := by rw [i64_in (by omega) (by omega)]; omega
    refine lx_step (wx_seq (wx_seq ?_))
    cases hb : bytesLess (keyV x) k with
    | true =>
      rw [hb, if_pos rfl] at hp
      refine wx_region fun K hK => ?_
      simp only [evW, evX, evM, evN, evC, far, ↓reduceIte, Nat.reduceEqDiff, Nat.reduceAdd, Nat.reduceLeDiff, Nat.reduceSub, Nat.reduceLT, reduceCtorEq, not_true_eq_false, not_false_eq_true, Int.reduceEq, Int.reduceLT, Int.reduceLE, Int.reduceNeg, valRows_length, hy, h0, Int.toNat_natCast, ga, row_eq, hcall, hb]
      refine hK _ _ ?_; clear hK K
      refine wx_cond true rfl (fun _ => wx_skip ?_) (fun h => by cases h)
      refine wx_block ?_
      refine wx_region fun K hK => ?_
      simp only [evW, evX, evM, evN, evC, far, ↓reduceIte, Nat.reduceEqDiff, Nat.reduceAdd, Nat.reduceLeDiff, Nat.reduceSub, Nat.reduceLT, reduceCtorEq, not_true_eq_false, not_false_eq_true, Int.reduceEq, Int.reduceLT, Int.reduceLE, Int.reduceNeg, w]
      refine hK _ _ ?_; clear hK K
      refine ⟨_, ?_, ihn (i + 1) (by omega) (by omega)⟩
      simp only [evH, evX, evN, ↓reduceIte, Nat.reduceEqDiff, Nat.reduceAdd, Nat.reduceLeDiff, Nat.reduceLT, Nat.reduceSub, reduceCtorEq]
    | false =>
      rw [hb, if_neg (by simp), Nat.add_zero] at hp
      refine wx_region fun K hK => ?_
      simp only [evW, evX, evM, evN, evC, far, ↓reduceIte, Nat.reduceEqDiff, Nat.reduceAdd, Nat.reduceLeDiff, Nat.reduceSub, Nat.reduceLT, reduceCtorEq, not_true_eq_false, not_false_eq_true, Int.reduceEq, Int.reduceLT, Int.reduceLE, Int.reduceNeg, valRows_length, hy, h0, Int.toNat_natCast, ga, row_eq, hcall, hb]
      refine hK _ _ ?_; clear hK K
      refine wx_cond false rfl (fun h => by cases h) (fun _ => wx_exit ?_)
      exact hx _ rfl rfl (by rw [hp]; rfl)

theorem refFind_ok (h120 : E 120 = some (.code c120)) (hkey : ∀ v : Val, lcall E 138 [v.arg] [] = some (.d (.s (keyV v)), [])) {l : List Val} (hl : l.length ≤ 1000) (k : List UInt8) :
    lcall E 120 [.d (.l 4 (valRows l)), .d (.s k)] [] = some (.tup [.d (.i .i64 (posK k l : Nat)), .d (.b (hasK k l))], []) := by
  refine call_wx h120 ?_
  refine wx_seq (wx_region fun K hK => ?_)
  simp only [evW, evX, evM, evN, evC, far, ↓reduceIte, Nat.reduceEqDiff, Nat.reduceAdd, Nat.reduceLeDiff, Nat.reduceSub, Nat.reduceLT, reduceCtorEq, not_true_eq_false, not_false_eq_true, Int.reduceEq, Int.reduceLT, Int.reduceLE, Int.reduceNeg]
  refine hK _ _ ?_; clear hK K
  refine wx_seq (wx_region fun K hK => ?_)
  simp only [evW, evX, evM, evN, evC, far, ↓reduceIte, Nat.reduceEqDiff, Nat.reduceAdd, Nat.reduceLeDiff, Nat.reduceSub, Nat.reduceLT, reduceCtorEq, not_true_eq_false, not_false_eq_true, Int.reduceEq, Int.reduceLT, Int.reduceLE, Int.reduceNeg]
  refine hK _ _ ?_; clear hK K
  refine wx_seq (wx_block (wx_loop ?_))
  simp only [evH, evX, evN, ↓reduceIte, Nat.reduceEqDiff, Nat.reduceAdd, Nat.reduceLeDiff, Nat.reduceLT, Nat.reduceSub, reduceCtorEq]
  refine find_loop hkey hl k (fun tm t0 t1 t6 => ?_) l.length 0 (by omega) (by simp)
  have hle := posK_le k l
  by_cases hlt : posK k l < l.length
  · have ga : (valRows l)[posK k l]? = some (Val.row l[posK k l]) := by rw [valRows_get, List.getElem?_eq_getElem hlt]; rfl
    have hh : hasK k l = (decide (0 < l[posK k l].l.length) && decide (keyV l[posK k l] = k)) := by unfold hasK; rw [List.getElem?_eq_getElem hlt]
    have hcall := hkey l[posK k l]
    have hy : ((posK k l : Nat) : Int) < l.length := by omega
    have h0 : (0 : Int) ≤ (posK k l : Nat) := by omega
    rw [hh]
    generalize l[posK k l] = x at *
    by_cases hx : x.l.length = 0
    · have hx' : ¬ ((0 : Int) < x.l.length) := by omega
      refine wx_seq (wx_region fun K hK => ?_)
      simp only [evW, evX, evM, evN, evC, far, ↓reduceIte, Nat.reduceEqDiff, Nat.reduceAdd, Nat.reduceLeDiff, Nat.reduceSub, Nat.reduceLT, reduceCtorEq, not_true_eq_false, not_false_eq_true, Int.reduceEq, Int.reduceLT, Int.reduceLE, Int.reduceNeg, t0, t1, t6, valRows_length, hy, h0, Int.toNat_natCast, ga, row_eq, hx']
      refine hK _ _ ?_; clear hK K
      refine wx_ret ⟨.inr rfl, ?_⟩
      simp only [evR, evX, evC, evN, ↓reduceIte, Nat.reduceEqDiff, Nat.reduceAdd, Nat.reduceLeDiff, Nat.reduceLT, Nat.reduceSub, reduceCtorEq, far, c120]
      simp [hx]
    · have hx' : (0 : Int) < x.l.length := by omega
      refine wx_seq (wx_region fun K hK => ?_)
      simp only [evW, evX, evM, evN, evC, far, ↓reduceIte, Nat.reduceEqDiff, Nat.reduceAdd, Nat.reduceLeDiff, Nat.reduceSub, Nat.reduceLT, reduceCtorEq, not_true_eq_false, not_false_eq_true, Int.reduceEq, Int.reduceLT, Int.reduceLE, Int.reduceNeg, t0, t1, t6, valRows_length, hy, h0, Int.toNat_natCast, ga, row_eq, hx', hcall]
      refine hK _ _ ?_; clear hK K
      refine wx_ret ⟨.inr rfl, ?_⟩
      simp only [evR, evX, evC, evN, ↓reduceIte, Nat.reduceEqDiff, Nat.reduceAdd, Nat.reduceLeDiff, Nat.reduceLT, Nat.reduceSub, reduceCtorEq, far, c120]
      simp [Nat.pos_of_ne_zero hx]
  · have hy : ¬ (((posK k l : Nat) : Int) < l.length) := by omega
    have hh : hasK k l = false := by unfold hasK; rw [List.getElem?_eq_none (by omega)]
    refine wx_seq (wx_region fun K hK => ?_)
    simp only [evW, evX, evM, evN, evC, far, ↓reduceIte, Nat.reduceEqDiff, Nat.reduceAdd, Nat.reduceLeDiff, Nat.reduceSub, Nat.reduceLT, reduceCtorEq, not_true_eq_false, not_false_eq_true, Int.reduceEq, Int.reduceLT, Int.reduceLE, Int.reduceNeg, t0, t1, t6, valRows_length, hy]
    refine hK _ _ ?_; clear hK K
    refine wx_ret ⟨.inr rfl, ?_⟩
    simp only [evR, evX, evC, evN, ↓reduceIte, Nat.reduceEqDiff, Nat.reduceAdd, Nat.reduceLeDiff, Nat.reduceLT, Nat.reduceSub, reduceCtorEq, far, c120, hh]

/-! ### putting a value into a row -/

def posV (v : Val) : List Val → Nat
  | [] => 0
  | x :: r => if cmpV x v < 0 then posV v r + 1 else 0

theorem posV_le (v : Val) : ∀ (l : List Val), posV v l ≤ l.length
  | [] => Nat.le_refl _
  | x :: r => by
    simp only [posV]
    split
    · simpa using posV_le v r
    · exact Nat.zero_le _

def insV (l : List Val) (v : Val) : List Val := match l[posV v l]? with
  | some x => if cmpV x v = 0 then l else l.take (posV v l) ++ [v] ++ l.drop (posV v l)
  | none => l.take (posV v l) ++ [v] ++ l.drop (posV v l)

def insLoop : CCode := match c117.body with
  | .seq _ (.seq _ (.seq (.block _ (.loop _ c)) _)) => c
  | _ => .skip

theorem ins_loop {v : Val} {l : List Val} (hcmp : ∀ x ∈ l, lcall E 115 [x.arg, v.arg] [] = some (.d (.i .i64 (cmpV x v)), [])) (hl : l.length ≤ 1000) {Q : Ex → St → Prop}
    (hx : ∀ tm, look tm 0 = .d (.l 4 (valRows l)) → look tm 3 = .ptr 0 0 → look tm 5 = .d (.i .i64 (posV v l : Nat)) → Q (.exit 0) ⟨tm, [vbox v]⟩) :
    ∀ (n i : Nat), i + n = l.length → posV v l = i + posV v (l.drop i) → LX E insLoop ⟨[0, 3, 5], [], [], [], [], true⟩ 1 ⟨[(0, .d (.l 4 (valRows l))), (3, .ptr 0 0), (5, .d (.i .i64 i))], [vbox v]⟩ Q := by
  intro n
  induction n with
  | zero =>
    intro i hi hp
    have hn : ¬ ((i : Int) < l.length) := by omega
    rw [List.drop_eq_nil_of_le (by omega), posV, Nat.add_zero] at hp
    refine lx_step (wx_seq (wx_seq ?_))
    refine wx_regionT fun K hK => ?_
    simp only [evW, evX, evM, evN, evC, far, ↓reduceIte, Nat.reduceEqDiff, Nat.reduceAdd, Nat.reduceLeDiff, Nat.reduceSub, Nat.reduceLT, reduceCtorEq, not_true_eq_false, not_false_eq_true, Int.reduceEq, Int.reduceLT, Int.reduceLE, Int.reduceNeg, valRows_length, hn]
    refine hK _ _ (by rfl) ?_; clear hK K
    refine wx_cond false rfl (fun h => by cases h) (fun _ => wx_exit ?_)
    exact hx _ rfl rfl (by rw [hp]; rfl)
  | succ n ihn =>
    intro i hi hp
    have hy : (i : Int) < l.length := by omega
    have la : i < l.length := by omega
    have h0 : (0 : Int) ≤ i := by omega
    have ga : (valRows l)[i]? = some (Val.row l[i]) := by rw [valRows_get, List.getElem?_eq_getElem la]; rfl
    rw [drop_cons la, posV] at hp
    have hcall := hcmp l[i] (List.getElem_mem la)
    generalize l[i] = x at *
    have w : IntKind.i64.wrap ((i : Int) + 1) = ((i + 1 : Nat) : Int) := by rw [i64_in (by omega) (by omega)]; omega
    refine lx_step (wx_seq (wx_seq ?_))
    by_cases hb : cmpV x v < 0
    · rw [if_pos hb] at hp
      refine wx_regionT fun K hK => ?_
      simp only [evW, evX, evM, evN, evC, far, ↓reduceIte, Nat.reduceEqDiff, Nat.reduceAdd, Nat.reduceLeDiff, Nat.reduceSub, Nat.reduceLT, reduceCtorEq, not_true_eq_false, not_false_eq_true, Int.reduceEq, Int.reduceLT, Int.reduceLE, Int.reduceNeg, valRows_length, hy, h0, Int.toNat_natCast, ga, row_eq, hcall, hb]
      refine hK _ _ (by rfl) ?_; clear hK K
      refine wx_cond true rfl (fun _ => wx_skip ?_) (fun h => by cases h)
      refine wx_block ?_
      refine wx_region fun K hK => ?_
      simp only [evW, evX, evM, evN, evC, far, ↓reduceIte, Nat.reduceEqDiff, Nat.reduceAdd, Nat.reduceLeDiff, Nat.reduceSub, Nat.reduceLT, reduceCtorEq, not_true_eq_false, not_false_eq_true, Int.reduceEq, Int.reduceLT, Int.reduceLE, Int.reduceNeg, w]
      refine hK _ _ ?_; clear hK K
      refine ⟨_, ?_, ihn (i + 1) (by omega) (by omega)⟩
      simp only [evH, evX, evN, ↓reduceIte, Nat.reduceEqDiff, Nat.reduceAdd, Nat.reduceLeDiff, Nat.reduceLT, Nat.reduceSub, reduceCtorEq]
    · rw [if_neg hb, Nat.add_zero] at hp
      refine wx_regionT fun K hK => ?_
      simp only [evW, evX, evM, evN, evC, far, ↓reduceIte, Nat.reduceEqDiff, Nat.reduceAdd, Nat.reduceLeDiff, Nat.reduceSub, Nat.reduceLT, reduceCtorEq, not_true_eq_false, not_false_eq_true, Int.reduceEq, Int.reduceLT, Int.reduceLE, Int.reduceNeg, valRows_length, hy, h0, Int.toNat_natCast, ga, row_eq, hcall, hb]
      refine hK _ _ (by rfl) ?_; clear hK K
      refine wx_cond false rfl (fun h => by cases h) (fun _ => wx_exit ?_)
      exact hx _ rfl rfl (by rw [hp]; rfl)

theorem roomy_in {n : Nat} (h : n ≤ 2000) : roomy n 56 = true := by unfold roomy; exact decide_eq_true (by omega)

def insTail : CCode := match c117.body with
  | .seq _ (.seq _ (.seq _ (.seq _ c))) => c
  | _ => .skip

theorem ins_tail {v : Val} {l : List Val} (hl : l.length ≤ 1000) {tm : List (Nat × V)} (t0 : look tm 0 = .d (.l 4 (valRows l))) (t3 : look tm 3 = .ptr 0 0) (t5 : look tm 5 = .d (.i .i64 (posV v l : Nat))) {T : List Val} (hT : T = l.take (posV v l) ++ [v] ++ l.drop (posV v l)) :
    WX E insTail ⟨tm, [vbox v]⟩ (fun ex s => (ex = .normal ∨ ex = .ret) ∧ result 0 s c117.rets = some (.d (.l 4 (valRows T)), [])) := by
  have hle := posV_le v l
  have h0 : (0 : Int) ≤ (posV v l : Nat) := by omega
  have hle' : ((posV v l : Nat) : Int) ≤ l.length := by omega
  have hlen : (l.take (posV v l)).length = posV v l := by simp; omega
  have hlen2 : (l.drop (posV v l)).length = l.length - posV v l := by simp
  have r1 : roomy ((posV v l)) 56 = true := roomy_in (by omega)
  have r2 : roomy (posV v l + 1) 56 = true := roomy_in (by omega)
  have r3 : roomy (posV v l + 1 + (l.length - posV v l)) 56 = true := roomy_in (by omega)
  refine wx_seq (wx_regionT fun K hK => ?_)
  simp only [evW, evX, evM, evN, evC, far, ↓reduceIte, Nat.reduceEqDiff, Nat.reduceAdd, Nat.reduceLeDiff, Nat.reduceSub, Nat.reduceLT, reduceCtorEq, not_true_eq_false, not_false_eq_true, Int.reduceEq, Int.reduceLT, Int.reduceLE, Int.reduceNeg, t0, t3, t5, valRows_length, h0, hle', Int.toNat_natCast, valRows_take, valRows_drop, hlen, hlen2, List.length_append, r1, r2, r3, List.take_length]
  refine hK _ _ (by rfl) ?_; clear hK K
  refine wx_ret ⟨.inr rfl, ?_⟩
  simp only [evR, evX, evC, evN, ↓reduceIte, Nat.reduceEqDiff, Nat.reduceAdd, Nat.reduceLeDiff, Nat.reduceLT, Nat.reduceSub, reduceCtorEq, far, c117]
  rw [hT]
  simp [valRows_eq, row_eq]

theorem refIns_ok (h117 : E 117 = some (.code c117)) {v : Val} {l : List Val} (hcmp : ∀ x ∈ l, lcall E 115 [x.arg, v.arg] [] = some (.d (.i .i64 (cmpV x v)), [])) (hl : l.length ≤ 1000) :
    lcall E 117 [.d (.l 4 (valRows l)), v.arg] [] = some (.d (.l 4 (valRows (insV l v))), []) := by
  refine call_wx h117 ?_
  refine wx_seq (wx_region fun K hK => ?_)
  simp only [evW, evX, evM, evN, evC, far, ↓reduceIte, Nat.reduceEqDiff, Nat.reduceAdd, Nat.reduceLeDiff, Nat.reduceSub, Nat.reduceLT, reduceCtorEq, not_true_eq_false, not_false_eq_true, Int.reduceEq, Int.reduceLT, Int.reduceLE, Int.reduceNeg]
  refine hK _ _ ?_; clear hK K
  refine wx_seq (wx_region fun K hK => ?_)
  simp only [evW, evX, evM, evN, evC, far, ↓reduceIte, Nat.reduceEqDiff, Nat.reduceAdd, Nat.reduceLeDiff, Nat.reduceSub, Nat.reduceLT, reduceCtorEq, not_true_eq_false, not_false_eq_true, Int.reduceEq, Int.reduceLT, Int.reduceLE, Int.reduceNeg]
  refine hK _ _ ?_; clear hK K
  refine wx_seq (wx_block (wx_loop ?_))
  simp only [evH, evX, evN, ↓reduceIte, Nat.reduceEqDiff, Nat.reduceAdd, Nat.reduceLeDiff, Nat.reduceLT, Nat.reduceSub, reduceCtorEq]
  refine ins_loop hcmp hl (fun tm t0 t3 t5 => ?_) l.length 0 (by omega) (by simp)
  have hle := posV_le v l
  have h0 : (0 : Int) ≤ (posV v l : Nat) := by omega
  have hle' : ((posV v l : Nat) : Int) ≤ l.length := by omega
  have r1 : roomy ((posV v l)) 56 = true := roomy_in (by omega)
  have r2 : roomy (posV v l + 1) 56 = true := roomy_in (by omega)
  have r3 : roomy (posV v l + 1 + (l.length - posV v l)) 56 = true := roomy_in (by omega)
  have r4 : roomy l.length 56 = true := roomy_in (by omega)
  refine wx_seq (wx_seq ?_)
  by_cases hlt : posV v l < l.length
  · have ga : (valRows l)[posV v l]? = some (Val.row l[posV v l]) := by rw [valRows_get, List.getElem?_eq_getElem hlt]; rfl
    have hh : insV l v = if cmpV l[posV v l] v = 0 then l else l.take (posV v l) ++ [v] ++ l.drop (posV v l) := by unfold insV; rw [List.getElem?_eq_getElem hlt]
    have hcall := hcmp l[posV v l] (List.getElem_mem hlt)
    have hy : ((posV v l : Nat) : Int) < l.length := by omega
    generalize l[posV v l] = x at *
    by_cases hb : cmpV x v = 0
    · rw [if_pos hb] at hh
      refine wx_regionT fun K hK => ?_
      simp only [evW, evX, evM, evN, evC, far, ↓reduceIte, Nat.reduceEqDiff, Nat.reduceAdd, Nat.reduceLeDiff, Nat.reduceSub, Nat.reduceLT, reduceCtorEq, not_true_eq_false, not_false_eq_true, Int.reduceEq, Int.reduceLT, Int.reduceLE, Int.reduceNeg, t0, t3, t5, valRows_length, hy, h0, Int.toNat_natCast, ga, row_eq, hcall, hb]
      refine hK _ _ (by rfl) ?_; clear hK K
      refine wx_cond true rfl (fun _ => ?_) (fun h => by cases h)
      refine wx_seq (wx_region fun K hK => ?_)
      simp only [evW, evX, evM, evN, evC, far, ↓reduceIte, Nat.reduceEqDiff, Nat.reduceAdd, Nat.reduceLeDiff, Nat.reduceSub, Nat.reduceLT, reduceCtorEq, not_true_eq_false, not_false_eq_true, Int.reduceEq, Int.reduceLT, Int.reduceLE, Int.reduceNeg, t0, valRows_length, r4]
      refine hK _ _ ?_; clear hK K
      refine wx_ret ⟨.inr rfl, ?_⟩
      simp only [evR, evX, evC, evN, ↓reduceIte, Nat.reduceEqDiff, Nat.reduceAdd, Nat.reduceLeDiff, Nat.reduceLT, Nat.reduceSub, reduceCtorEq, far, c117, hh]
    · rw [if_neg hb] at hh
      refine wx_regionT fun K hK => ?_
      simp only [evW, evX, evM, evN, evC, far, ↓reduceIte, Nat.reduceEqDiff, Nat.reduceAdd, Nat.reduceLeDiff, Nat.reduceSub, Nat.reduceLT, reduceCtorEq, not_true_eq_false, not_false_eq_true, Int.reduceEq, Int.reduceLT, Int.reduceLE, Int.reduceNeg, t0, t3, t5, valRows_length, hy, h0, Int.toNat_natCast, ga, row_eq, hcall, hb]
      refine hK _ _ (by rfl) ?_; clear hK K
      refine wx_cond false rfl (fun h => by cases h) (fun _ => wx_skip ?_)
      refine ins_tail hl ?_ ?_ ?_ hh <;> first | exact t0 | exact t3 | exact t5
  · have hy : ¬ (((posV v l : Nat) : Int) < l.length) := by omega
    have hh : insV l v = l.take (posV v l) ++ [v] ++ l.drop (posV v l) := by unfold insV; rw [List.getElem?_eq_none (by omega)]
    refine wx_regionT fun K hK => ?_
    simp only [evW, evX, evM, evN, evC, far, ↓reduceIte, Nat.reduceEqDiff, Nat.reduceAdd, Nat.reduceLeDiff, Nat.reduceSub, Nat.reduceLT, reduceCtorEq, not_true_eq_false, not_false_eq_true, Int.reduceEq, Int.reduceLT, Int.reduceLE, Int.reduceNeg, t0, t3, t5, valRows_length, hy]
    refine hK _ _ (by rfl) ?_; clear hK K
    refine wx_cond false rfl (fun h => by cases h) (fun _ => wx_skip ?_)
    refine ins_tail hl ?_ ?_ ?_ hh <;> first | exact t0 | exact t3 | exact t5
end Ab

/-
  Values stand in one row: plain laws of the order.
-/
namespace Ab
open Go
set_option linter.unusedVariables false

theorem valInd {P : Val → Prop} (h : ∀ v : Val, (∀ x ∈ v.l, P x) → P v) : ∀ v, P v := by
  have : ∀ (n : Nat) (v : Val), sizeOf v < n → P v := by
    intro n
    induction n with
    | zero => intro v hv; omega
    | succ n ih =>
      intro v hv
      refine h v fun x hx => ih x ?_
      cases v with
      | mk k i s l =>
        have := List.sizeOf_lt_of_mem hx
        simp only [Val.l] at this
        simp only [Val.mk.sizeOf_spec] at hv
        omega
  exact fun v => this _ v (Nat.lt_succ_self _)

/-! ### bytes -/

theorem bl_irrefl : ∀ (x : List UInt8), bytesLess x x = false
  | [] => rfl
  | a :: x => by simp [bytesLess, bl_irrefl x]

theorem bl_total : ∀ (x y : List UInt8), bytesLess x y = true ∨ x = y ∨ bytesLess y x = true
  | [], [] => .inr (.inl rfl)
  | [], _ :: _ => .inl rfl
  | _ :: _, [] => .inr (.inr rfl)
  | a :: x, b :: y => by
    simp only [bytesLess, Bool.or_eq_true, Bool.and_eq_true, decide_eq_true_eq, beq_iff_eq]
    rcases UInt8.lt_or_lt_of_ne (a := a) (b := b) |> fun f => (Classical.em (a = b)).elim (fun e => Or.inl e) (fun e => Or.inr (f e)) with e | h | h
    · subst e
      rcases bl_total x y with h | h | h
      · exact .inl (.inr ⟨rfl, h⟩)
      · exact .inr (.inl (by rw [h]))
      · exact .inr (.inr (.inr ⟨rfl, h⟩))
    · exact .inl (.inl h)
    · exact .inr (.inr (.inl h))

theorem bl_trans : ∀ {x y z : List UInt8}, bytesLess x y = true → bytesLess y z = true → bytesLess x z = true
  | x, y, [], h, k => by cases y <;> simp [bytesLess] at k
  | [], y, c :: z, h, k => rfl
  | a :: x, [], c :: z, h, k => by simp [bytesLess] at h
  | a :: x, b :: y, c :: z, h, k => by
    simp only [bytesLess, Bool.or_eq_true, Bool.and_eq_true, decide_eq_true_eq, beq_iff_eq] at *
    rcases h with h | ⟨rfl, h⟩
    · rcases k with k | ⟨rfl, k⟩
      · exact .inl (UInt8.lt_trans h k)
      · exact .inl h
    · rcases k with k | ⟨rfl, k⟩
      · exact .inl k
      · exact .inr ⟨rfl, bl_trans h k⟩

theorem bl_asymm {x y : List UInt8} (h : bytesLess x y = true) : bytesLess y x = false := by
  cases k : bytesLess y x with
  | false => rfl
  | true => have := bl_trans h k; rw [bl_irrefl] at this; cases this

/-! ### values -/

theorem sgn_cases (b : Bool) : sgn b = 1 ∧ b = false ∨ sgn b = -1 ∧ b = true := by cases b <;> simp [sgn]

theorem cmpL_refl : ∀ (l : List Val), (∀ x ∈ l, cmpV x x = 0) → cmpL l l = 0
  | [], _ => by simp only [cmpL]
  | x :: r, h => by simp only [cmpL, h x (by simp), if_true]; exact cmpL_refl r fun y hy => h y (by simp [hy])

theorem cmp_refl (v : Val) : cmpV v v = 0 := by
  induction v using valInd with
  | _ v ih => rw [cmpV_eq]; simp only [if_true]; exact cmpL_refl _ ih

theorem cmpL_zero : ∀ (l m : List Val), (∀ x ∈ l, ∀ y, cmpV x y = 0 → x = y) → cmpL l m = 0 → l = m
  | [], [], _, _ => rfl
  | [], _ :: _, _, h => by simp [cmpL] at h
  | _ :: _, [], _, h => by simp [cmpL] at h
  | x :: r, y :: t, hx, h => by
    simp only [cmpL] at h
    by_cases e : cmpV x y = 0
    · rw [if_pos e] at h
      rw [hx x (by simp) y e, cmpL_zero r t (fun z hz => hx z (by simp [hz])) h]
    · rw [if_neg e] at h; exact absurd h e

theorem cmp_zero : ∀ (a b : Val), cmpV a b = 0 → a = b := by
  intro a
  induction a using valInd with
  | _ a ih =>
    intro b h
    rw [cmpV_eq] at h
    by_cases e1 : a.kind = b.kind
    · rw [if_pos e1] at h
      by_cases e2 : a.i = b.i
      · rw [if_pos e2] at h
        by_cases e3 : a.s = b.s
        · rw [if_pos e3] at h
          have := cmpL_zero _ _ ih h
          rw [← Val.eta a, ← Val.eta b, e1, e2, e3, this]
        · rw [if_neg e3] at h; rcases sgn_cases (bytesLess a.s b.s) with ⟨k, _⟩ | ⟨k, _⟩ <;> rw [k] at h <;> simp at h
      · rw [if_neg e2] at h; rcases sgn_cases (decide (a.i < b.i)) with ⟨k, _⟩ | ⟨k, _⟩ <;> rw [k] at h <;> simp at h
    · rw [if_neg e1] at h; rcases sgn_cases (decide (a.kind < b.kind)) with ⟨k, _⟩ | ⟨k, _⟩ <;> rw [k] at h <;> simp at h

theorem sgn_neg {p q : Bool} (h : q = !p) : sgn q = - sgn p := by subst h; cases p <;> rfl

theorem cmpL_neg : ∀ (l m : List Val), (∀ x ∈ l, ∀ y, cmpV y x = - cmpV x y) → cmpL m l = - cmpL l m
  | [], [], _ => by simp [cmpL]
  | [], _ :: _, _ => by simp [cmpL]
  | _ :: _, [], _ => by simp [cmpL]
  | x :: r, y :: t, hx => by
    simp only [cmpL]
    rw [hx x (by simp) y]
    by_cases e : cmpV x y = 0
    · rw [if_pos e, if_pos (by omega)]; exact cmpL_neg r t fun z hz => hx z (by simp [hz])
    · rw [if_neg e, if_neg (by omega)]

theorem cmp_neg : ∀ (a b : Val), cmpV b a = - cmpV a b := by
  intro a
  induction a using valInd with
  | _ a ih =>
    intro b
    rw [cmpV_eq a b, cmpV_eq b a]
    by_cases e1 : a.kind = b.kind
    · rw [if_pos e1, if_pos e1.symm]
      by_cases e2 : a.i = b.i
      · rw [if_pos e2, if_pos e2.symm]
        by_cases e3 : a.s = b.s
        · rw [if_pos e3, if_pos e3.symm]; exact cmpL_neg _ _ ih
        · rw [if_neg e3, if_neg (fun h => e3 h.symm)]
          refine sgn_neg ?_
          rcases bl_total a.s b.s with h | h | h
          · rw [h, bl_asymm h]; rfl
          · exact absurd h e3
          · rw [h, bl_asymm h]; rfl
      · rw [if_neg e2, if_neg (fun h => e2 h.symm)]
        refine sgn_neg ?_
        by_cases h : a.i < b.i
        · simp [h]; omega
        · simp [h]; omega
    · rw [if_neg e1, if_neg (fun h => e1 h.symm)]
      refine sgn_neg ?_
      by_cases h : a.kind < b.kind
      · simp [h]; omega
      · simp [h]; omega

theorem cmpL_trans : ∀ (l m n : List Val), (∀ x ∈ l, ∀ y z, cmpV x y < 0 → cmpV y z < 0 → cmpV x z < 0) → cmpL l m < 0 → cmpL m n < 0 → cmpL l n < 0
  | [], [], n, _, h, k => k
  | [], _ :: _, [], _, h, k => by simp [cmpL] at k
  | [], _ :: _, _ :: _, _, h, k => by simp [cmpL]
  | _ :: _, [], n, _, h, k => by simp [cmpL] at h
  | _ :: _, _ :: _, [], _, h, k => by simp [cmpL] at k
  | x :: r, y :: t, z :: u, hx, h, k => by
    simp only [cmpL] at *
    by_cases e1 : cmpV x y = 0
    · rw [if_pos e1] at h
      have := cmp_zero _ _ e1
      subst this
      by_cases e2 : cmpV x z = 0
      · rw [if_pos e2] at k ⊢
        exact cmpL_trans r t u (fun w hw => hx w (by simp [hw])) h k
      · rw [if_neg e2] at k ⊢; exact k
    · rw [if_neg e1] at h
      by_cases e2 : cmpV y z = 0
      · have := cmp_zero _ _ e2
        subst this
        rw [if_neg e1]; exact h
      · rw [if_neg e2] at k
        have := hx x (by simp) y z h k
        rw [if_neg (by omega)]; exact this

theorem cmp_trans : ∀ (a b c : Val), cmpV a b < 0 → cmpV b c < 0 → cmpV a c < 0 := by
  intro a
  induction a using valInd with
  | _ a ih =>
    intro b c h k
    rw [cmpV_eq] at *
    by_cases e1 : a.kind = b.kind
    · rw [if_pos e1] at h
      rw [e1]
      by_cases f1 : b.kind = c.kind
      · rw [if_pos f1] at k ⊢
        by_cases e2 : a.i = b.i
        · rw [if_pos e2] at h
          rw [e2]
          by_cases f2 : b.i = c.i
          · rw [if_pos f2] at k ⊢
            by_cases e3 : a.s = b.s
            · rw [if_pos e3] at h
              rw [e3]
              by_cases f3 : b.s = c.s
              · rw [if_pos f3] at k ⊢
                exact cmpL_trans _ _ _ ih h k
              · rw [if_neg f3] at k ⊢; exact k
            · rw [if_neg e3] at h
              have h' : bytesLess a.s b.s = true := by rcases sgn_cases (bytesLess a.s b.s) with ⟨q, _⟩ | ⟨_, q⟩; (rw [q] at h; omega); exact q
              by_cases f3 : b.s = c.s
              · rw [← f3, if_neg e3]; exact h
              · rw [if_neg f3] at k
                have k' : bytesLess b.s c.s = true := by rcases sgn_cases (bytesLess b.s c.s) with ⟨q, _⟩ | ⟨_, q⟩; (rw [q] at k; omega); exact q
                have := bl_trans h' k'
                rw [if_neg (fun e => by rw [e, bl_irrefl] at this; cases this), this]; decide
          · rw [if_neg f2] at k ⊢; exact k
        · rw [if_neg e2] at h
          have h' : a.i < b.i := by rcases sgn_cases (decide (a.i < b.i)) with ⟨q, _⟩ | ⟨_, q⟩; (rw [q] at h; omega); exact of_decide_eq_true q
          have k' : b.i ≤ c.i := by
            by_cases f2 : b.i = c.i
            · omega
            · rw [if_neg f2] at k
              rcases sgn_cases (decide (b.i < c.i)) with ⟨q, _⟩ | ⟨_, q⟩
              · rw [q] at k; omega
              · have := of_decide_eq_true q; omega
          rw [if_neg (by omega), show decide (a.i < c.i) = true from decide_eq_true (by omega)]; decide
      · rw [if_neg f1] at k ⊢; exact k
    · rw [if_neg e1] at h
      have h' : a.kind < b.kind := by rcases sgn_cases (decide (a.kind < b.kind)) with ⟨q, _⟩ | ⟨_, q⟩; (rw [q] at h; omega); exact of_decide_eq_true q
      have k' : b.kind ≤ c.kind := by
        by_cases f1 : b.kind = c.kind
        · omega
        · rw [if_neg f1] at k
          rcases sgn_cases (decide (b.kind < c.kind)) with ⟨q, _⟩ | ⟨_, q⟩
          · rw [q] at k; omega
          · have := of_decide_eq_true q; omega
      rw [if_neg (by omega), show decide (a.kind < c.kind) = true from decide_eq_true (by omega)]; decide

theorem cmpL_range : ∀ (l m : List Val), (∀ x ∈ l, ∀ y, cmpV x y = -1 ∨ cmpV x y = 0 ∨ cmpV x y = 1) → cmpL l m = -1 ∨ cmpL l m = 0 ∨ cmpL l m = 1
  | [], [], _ => by simp [cmpL]
  | [], _ :: _, _ => by simp [cmpL]
  | _ :: _, [], _ => by simp [cmpL]
  | x :: r, y :: t, hx => by
    simp only [cmpL]
    split
    · exact cmpL_range r t fun z hz => hx z (by simp [hz])
    · exact hx x (by simp) y

theorem cmp_range : ∀ (a b : Val), cmpV a b = -1 ∨ cmpV a b = 0 ∨ cmpV a b = 1 := by
  intro a
  induction a using valInd with
  | _ a ih =>
    intro b
    rw [cmpV_eq]
    split
    · split
      · split
        · exact cmpL_range _ _ ih
        · rcases sgn_cases (bytesLess a.s b.s) with ⟨k, _⟩ | ⟨k, _⟩ <;> rw [k] <;> simp
      · rcases sgn_cases (decide (a.i < b.i)) with ⟨k, _⟩ | ⟨k, _⟩ <;> rw [k] <;> simp
    · rcases sgn_cases (decide (a.kind < b.kind)) with ⟨k, _⟩ | ⟨k, _⟩ <;> rw [k] <;> simp
end Ab

/-
  Which values may be; rows that rise.
-/
namespace Ab
open Go
set_option linter.unusedVariables false

/-- each and the next one. -/
def chainB (p : Val → Val → Bool) : List Val → Bool
  | [] => true
  | [_] => true
  | x :: y :: r => p x y && chainB p (y :: r)

def pairV (v : Val) : Bool := decide (v.kind = 4) && (match v.l with | [x, _] => decide (x.kind = 3) | _ => false)
def ltV (a b : Val) : Bool := decide (cmpV a b < 0)
def ltK (a b : Val) : Bool := bytesLess (keyV a) (keyV b)

def rowOk (k : Int) (l : List Val) : Bool := if k = 4 then true else if k = 5 then chainB ltV l else if k = 6 then l.all pairV && chainB ltK l else l.isEmpty
def numOk (k i : Int) : Bool := if k = 1 then true else if k = 2 then decide (i = 0 ∨ i = 1) else if k = 7 then decide (1 ≤ i ∧ i ≤ 13) else decide (i = 0)

mutual
def mayV : Val → Bool
  | .mk k i s l => decide (1 ≤ k ∧ k ≤ 7) && numOk k i && (decide (k = 3) || s.isEmpty) && rowOk k l && mayL l
def mayL : List Val → Bool
  | [] => true
  | x :: r => !decide (x.kind = 7) && mayV x && mayL r
end

theorem mayL_all : ∀ (l : List Val), mayL l = l.all fun x => !decide (x.kind = 7) && mayV x
  | [] => rfl
  | x :: r => by simp only [mayL, List.all_cons, mayL_all r]

theorem mayV_eq (v : Val) : mayV v = (decide (1 ≤ v.kind ∧ v.kind ≤ 7) && numOk v.kind v.i && (decide (v.kind = 3) || v.s.isEmpty) && rowOk v.kind v.l && mayL v.l) := by cases v; simp only [mayV]; rfl

/-! ### chains -/

theorem chain_tail {p : Val → Val → Bool} {x : Val} {l : List Val} (h : chainB p (x :: l) = true) : chainB p l = true := by
  cases l with
  | nil => rfl
  | cons y r => simp only [chainB, Bool.and_eq_true] at h; exact h.2

theorem chain_cons {p : Val → Val → Bool} {x : Val} {l : List Val} (h : chainB p l = true) (hx : ∀ y ∈ l.head?, p x y = true) : chainB p (x :: l) = true := by
  cases l with
  | nil => rfl
  | cons y r => simp only [chainB, Bool.and_eq_true]; exact ⟨hx y (by simp), h⟩

/-- all behind are greater. -/
theorem chain_all {p : Val → Val → Bool} (ht : ∀ a b c, p a b = true → p b c = true → p a c = true) {x : Val} : ∀ {l : List Val}, chainB p (x :: l) = true → ∀ y ∈ l, p x y = true
  | [], _, y, hy => by cases hy
  | z :: r, h, y, hy => by
    simp only [chainB, Bool.and_eq_true] at h
    rcases List.mem_cons.1 hy with rfl | hy
    · exact h.1
    · exact ht _ _ _ h.1 (chain_all ht h.2 y hy)

theorem chain_pair {p : Val → Val → Bool} (ht : ∀ a b c, p a b = true → p b c = true → p a c = true) : ∀ {l : List Val}, chainB p l = true → l.Pairwise fun a b => p a b = true
  | [], _ => .nil
  | x :: r, h => .cons (chain_all ht h) (chain_pair ht (chain_tail h))

theorem ltV_trans (a b c : Val) (h : ltV a b = true) (k : ltV b c = true) : ltV a c = true := by
  simp only [ltV, decide_eq_true_eq] at *; exact cmp_trans a b c h k
theorem ltK_trans (a b c : Val) (h : ltK a b = true) (k : ltK b c = true) : ltK a c = true := bl_trans h k

/-- what is put into a chain at the first place that is not less. -/
theorem chain_ins {p : Val → Val → Bool} {v : Val} {pos : List Val → Nat} (h0 : pos [] = 0) (h1 : ∀ x r, pos (x :: r) = if p x v = true then pos r + 1 else 0) :
    ∀ (l : List Val), chainB p l = true → (∀ x, l[pos l]? = some x → p v x = true) → chainB p (l.take (pos l) ++ [v] ++ l.drop (pos l)) = true
  | [], _, _ => by rw [h0]; rfl
  | x :: r, h, hv => by
    rw [h1] at *
    by_cases e : p x v = true
    · rw [if_pos e] at *
      simp only [List.take_succ_cons, List.drop_succ_cons, List.cons_append]
      have ih := chain_ins h0 h1 r (chain_tail h) (fun y hy => hv y (by simpa using hy))
      refine chain_cons ih fun y hy => ?_
      cases hr : pos r with
      | zero =>
        rw [hr] at hy
        simp only [List.take_zero, List.nil_append, List.cons_append, List.head?_cons, Option.mem_def, Option.some.injEq] at hy
        rw [← hy]; exact e
      | succ n =>
        cases r with
        | nil => rw [h0] at hr; cases hr
        | cons z t =>
          rw [hr] at hy
          simp only [List.take_succ_cons, List.cons_append, List.head?_cons, Option.mem_def, Option.some.injEq] at hy
          rw [← hy]
          simp only [chainB, Bool.and_eq_true] at h
          exact h.1
    · rw [if_neg e] at *
      simp only [List.take_zero, List.nil_append, List.drop_zero, List.cons_append]
      exact chain_cons h fun y hy => hv y (by simpa using hy)

theorem insV_chain {l : List Val} {v : Val} (h : chainB ltV l = true) : chainB ltV (insV l v) = true := by
  have key : (∀ x, l[posV v l]? = some x → cmpV x v ≠ 0) → chainB ltV (l.take (posV v l) ++ [v] ++ l.drop (posV v l)) = true := fun hne => by
    refine chain_ins (pos := posV v) rfl (fun x r => ?_) l h (fun x hx => ?_)
    · simp only [posV, ltV, decide_eq_true_eq]
    · have : ∀ (l : List Val) x, l[posV v l]? = some x → ¬ cmpV x v < 0 := by
        intro l
        induction l with
        | nil => intro x hx; simp at hx
        | cons y r ih =>
          intro x hx
          simp only [posV] at hx
          split at hx
          · exact ih x (by simpa using hx)
          · simp at hx; subst hx; assumption
      have h1 := this l x hx
      have h2 := hne x hx
      have := cmp_neg x v
      simp only [ltV, decide_eq_true_eq]
      omega
  unfold insV
  cases hx : l[posV v l]? with
  | none => exact key (fun x hx' => by rw [hx] at hx'; cases hx')
  | some x =>
    simp only
    split
    · exact h
    · rename_i hne
      exact key (fun y hy => by rw [hx] at hy; cases hy; exact hne)

theorem insV_mem {l : List Val} {v x : Val} (h : x ∈ insV l v) : x ∈ l ∨ x = v := by
  have key : x ∈ l.take (posV v l) ++ [v] ++ l.drop (posV v l) → x ∈ l ∨ x = v := fun h => by
    simp only [List.mem_append, List.mem_singleton] at h
    rcases h with (h | h) | h
    · exact .inl (List.mem_of_mem_take h)
    · exact .inr h
    · exact .inl (List.mem_of_mem_drop h)
  unfold insV at h
  split at h
  · split at h
    · exact .inl h
    · exact key h
  · exact key h

theorem insV_length (l : List Val) (v : Val) : (insV l v).length ≤ l.length + 1 := by
  have hle := posV_le v l
  unfold insV
  split
  · split
    · omega
    · simp; omega
  · simp; omega

theorem small_mk {k i : Int} {s : List UInt8} {l : List Val} (h : l.length ≤ 1000) (hs : ∀ x ∈ l, Small x) : Small (.mk k i s l) := .mk h hs

/-- what choices make. -/
structure GenOk (m : Nat) (v : Val) : Prop where
  size : szN v ≤ m
  small : Small v
  len : v.l.length ≤ 3
  may : mayV v = true
  good : v.kind ≠ 7

theorem mayL_of {m : Nat} {l : List Val} (h : ∀ x ∈ l, GenOk m x) : mayL l = true := by
  rw [mayL_all, List.all_eq_true]
  intro x hx
  simp [(h x hx).may, (h x hx).good]

theorem szL_of {m : Nat} : ∀ {l : List Val}, (∀ x ∈ l, GenOk m x) → szL l ≤ l.length * m
  | [], _ => by simp [szL]
  | x :: r, h => by
    simp only [szL, List.length_cons]
    have h1 := (h x (by simp)).size
    have h2 := szL_of (l := r) fun y hy => h y (by simp [hy])
    rw [Nat.add_mul]; omega

theorem genOk_mono {m n : Nat} (h : m ≤ n) {v : Val} (k : GenOk m v) : GenOk n v := ⟨Nat.le_trans k.size h, k.small, k.len, k.may, k.good⟩

/-- how great what choices make may be. -/
def bnd : Nat → Nat
  | 0 => 3
  | d + 1 => 1 + 3 * (2 + bnd d)
end Ab

/-
  Values that choices make.
-/
namespace Ab
open Go
set_option linter.unusedVariables false
set_option linter.unusedSimpArgs false
set_option maxRecDepth 100000
variable {E : Nat → Option Fn}

def GenC (E : Nat → Option Fn) (l : List UInt8) (deep : Nat) : Prop := ∀ (n : Nat), n ≤ l.length →
  ∃ v n', lcall E 109 [.ptr 0 0, .d (.i .i64 deep)] [pbox l n] = some (v.arg, [pbox l n']) ∧ n' ≤ l.length ∧ GenOk (bnd deep) v

def SomeC (E : Nat → Option Fn) (l : List UInt8) (m : Nat) (deep : Int) : Prop := ∀ (n : Nat), n ≤ l.length →
  ∃ vs n', lcall E 124 [.ptr 0 0, .d (.i .i64 deep)] [pbox l n] = some (.d (.l 4 (valRows vs)), [pbox l n']) ∧ n' ≤ l.length ∧ vs.length ≤ 3 ∧ ∀ x ∈ vs, GenOk m x

def NumC (E : Nat → Option Fn) (l : List UInt8) : Prop := ∀ (n : Nat), n ≤ l.length → ∀ (m : Int), 0 < m →
    ∃ (k : Int) (n' : Nat), lcall E 123 [.ptr 0 0, .d (.i .i64 m)] [pbox l n] = some (.d (.i .i64 k), [pbox l n']) ∧ 0 ≤ k ∧ k < m ∧ n' ≤ l.length

def someLoop : CCode := match c124.body with
  | .seq _ (.seq _ (.seq (.seq _ (.block _ (.loop _ c))) _)) => c
  | _ => .skip

theorem some_loop {l : List UInt8} {deep : Nat} (hg : GenC E l deep) {w : Int} (hw : IntKind.i64.wrap (w - 1) = deep) {Q : Ex → St → Prop}
    (hx : ∀ tm vs n, look tm 5 = .own 5 0 4 (valRows vs) → n ≤ l.length → vs.length ≤ 3 → (∀ x ∈ vs, GenOk (bnd deep) x) → Q (.exit 0) ⟨tm, [pbox l n, none, none, none, none, some (.tok 0 4)]⟩) :
    ∀ (i : Nat) (vs : List Val) (n : Nat), i + vs.length ≤ 3 → n ≤ l.length → (∀ x ∈ vs, GenOk (bnd deep) x) → LX E someLoop ⟨[0, 1, 5, 6], [5], [], [], [], true⟩ 6 ⟨[(0, .ptr 0 0), (1, .d (.i .i64 w)), (5, .own 5 0 4 (valRows vs)), (6, .d (.i .i64 i))], [pbox l n, none, none, none, none, some (.tok 0 4)]⟩ Q := by
  intro i
  induction i with
  | zero =>
    intro vs n hi hn hv
    refine lx_step (wx_seq (wx_seq ?_))
    have h0 : ¬ ((0 : Int) < ((0 : Nat) : Int)) := by omega
    refine wx_region fun K hK => ?_
    simp only [evW, evX, evM, evN, evC, far, ↓reduceIte, Nat.reduceEqDiff, Nat.reduceAdd, Nat.reduceLeDiff, Nat.reduceSub, Nat.reduceLT, reduceCtorEq, not_true_eq_false, not_false_eq_true, Int.reduceEq, Int.reduceLT, Int.reduceLE, Int.reduceNeg, h0]
    refine hK _ _ ?_; clear hK K
    refine wx_cond false rfl (fun h => by cases h) (fun _ => wx_exit ?_)
    exact hx _ vs n rfl hn (by omega) hv
  | succ i ih =>
    intro vs n hi hn hv
    obtain ⟨v, n1, hc, hn1, hok⟩ := hg n hn
    have h0 : (0 : Int) < ((i + 1 : Nat) : Int) := by omega
    have w1 : IntKind.i64.wrap (((i + 1 : Nat) : Int) - 1) = (i : Int) := by rw [i64_in (by omega) (by omega)]; omega
    have r1 : roomy (vs.length + 1) 56 = true := roomy_in (by omega)
    refine lx_step (wx_seq (wx_seq ?_))
    refine wx_region fun K hK => ?_
    simp only [evW, evX, evM, evN, evC, far, ↓reduceIte, Nat.reduceEqDiff, Nat.reduceAdd, Nat.reduceLeDiff, Nat.reduceSub, Nat.reduceLT, reduceCtorEq, not_true_eq_false, not_false_eq_true, Int.reduceEq, Int.reduceLT, Int.reduceLE, Int.reduceNeg, h0]
    refine hK _ _ ?_; clear hK K
    refine wx_cond true rfl (fun _ => wx_skip ?_) (fun h => by cases h)
    refine wx_seq (wx_block ?_)
    refine wx_region fun K hK => ?_
    simp only [evW, evX, evM, evN, evC, far, ↓reduceIte, Nat.reduceEqDiff, Nat.reduceAdd, Nat.reduceLeDiff, Nat.reduceSub, Nat.reduceLT, reduceCtorEq, not_true_eq_false, not_false_eq_true, Int.reduceEq, Int.reduceLT, Int.reduceLE, Int.reduceNeg, hw, hc, valRows_length, r1]
    refine hK _ _ ?_; clear hK K
    have hrow : valRows vs ++ [[.i .i64 v.kind, .i .i64 v.i, .s v.s, .l 4 (valRows v.l)]] = valRows (vs ++ [v]) := by simp [valRows_eq, row_eq]
    refine wx_region fun K hK => ?_
    simp only [evW, evX, evM, evN, evC, far, ↓reduceIte, Nat.reduceEqDiff, Nat.reduceAdd, Nat.reduceLeDiff, Nat.reduceSub, Nat.reduceLT, reduceCtorEq, not_true_eq_false, not_false_eq_true, Int.reduceEq, Int.reduceLT, Int.reduceLE, Int.reduceNeg, w1, hrow]
    refine hK _ _ ?_; clear hK K
    refine ⟨_, ?_, ih (vs ++ [v]) n1 (by simp; omega) hn1 (fun x hx => ?_)⟩
    · simp only [evH, evX, evN, ↓reduceIte, Nat.reduceEqDiff, Nat.reduceAdd, Nat.reduceLeDiff, Nat.reduceLT, Nat.reduceSub, reduceCtorEq]
    · rcases List.mem_append.1 hx with h | h
      · exact hv x h
      · simp only [List.mem_singleton] at h; subst h; exact hok

theorem some_ok (h124 : E 124 = some (.code c124)) {l : List UInt8} (hnum : NumC E l) {deep : Nat} (hd : deep ≤ 100) (hg : GenC E l deep) : SomeC E l (bnd deep) ((deep + 1 : Nat) : Int) := by
  intro n hn
  obtain ⟨k, n1, hc, k0, k1, hn1⟩ := hnum n hn 4 (by omega)
  obtain ⟨i, rfl⟩ : ∃ i : Nat, k = i := ⟨k.toNat, by omega⟩
  have hw : IntKind.i64.wrap (((deep + 1 : Nat) : Int) - 1) = deep := by rw [i64_in (by omega) (by omega)]; omega
  have : ∃ r, lcall E 124 [.ptr 0 0, .d (.i .i64 ((deep + 1 : Nat) : Int))] [pbox l n] = some r ∧ ∃ vs n', r = (.d (.l 4 (valRows vs)), [pbox l n']) ∧ n' ≤ l.length ∧ vs.length ≤ 3 ∧ ∀ x ∈ vs, GenOk (bnd deep) x := by
    refine call_wxP h124 ?_
    refine wx_seq (wx_region fun K hK => ?_)
    simp only [evW, evX, evM, evN, evC, far, ↓reduceIte, Nat.reduceEqDiff, Nat.reduceAdd, Nat.reduceLeDiff, Nat.reduceSub, Nat.reduceLT, reduceCtorEq, not_true_eq_false, not_false_eq_true, Int.reduceEq, Int.reduceLT, Int.reduceLE, Int.reduceNeg]
    refine hK _ _ ?_; clear hK K
    refine wx_seq (wx_region fun K hK => ?_)
    simp only [evW, evX, evM, evN, evC, far, ↓reduceIte, Nat.reduceEqDiff, Nat.reduceAdd, Nat.reduceLeDiff, Nat.reduceSub, Nat.reduceLT, reduceCtorEq, not_true_eq_false, not_false_eq_true, Int.reduceEq, Int.reduceLT, Int.reduceLE, Int.reduceNeg]
    refine hK _ _ ?_; clear hK K
    refine wx_seq (wx_seq ?_)
    refine wx_region fun K hK => ?_
    simp only [evW, evX, evM, evN, evC, far, ↓reduceIte, Nat.reduceEqDiff, Nat.reduceAdd, Nat.reduceLeDiff, Nat.reduceSub, Nat.reduceLT, reduceCtorEq, not_true_eq_false, not_false_eq_true, Int.reduceEq, Int.reduceLT, Int.reduceLE, Int.reduceNeg, hc]
    refine hK _ _ ?_; clear hK K
    refine wx_block (wx_loop ?_)
    simp only [evH, evX, evN, ↓reduceIte, Nat.reduceEqDiff, Nat.reduceAdd, Nat.reduceLeDiff, Nat.reduceLT, Nat.reduceSub, reduceCtorEq]
    refine some_loop hg hw (fun tm vs n2 t5 hn2 hlen hv => ?_) i [] n1 (by simp; omega) hn1 (by simp)
    refine wx_seq (wx_region fun K hK => ?_)
    simp only [evW, evX, evM, evN, evC, far, ↓reduceIte, Nat.reduceEqDiff, Nat.reduceAdd, Nat.reduceLeDiff, Nat.reduceSub, Nat.reduceLT, reduceCtorEq, not_true_eq_false, not_false_eq_true, Int.reduceEq, Int.reduceLT, Int.reduceLE, Int.reduceNeg, t5]
    refine hK _ _ ?_; clear hK K
    refine wx_ret ⟨.inr rfl, _, ?_, vs, n2, rfl, hn2, hlen, hv⟩
    simp only [evR, evX, evC, evN, ↓reduceIte, Nat.reduceEqDiff, Nat.reduceAdd, Nat.reduceLeDiff, Nat.reduceLT, Nat.reduceSub, reduceCtorEq, far, c124]
  obtain ⟨r, h1, vs, n', rfl, h2⟩ := this
  exact ⟨vs, n', h1, h2⟩
end Ab

/-
  Values that choices make: Val.
-/
namespace Ab
open Go
set_option linter.unusedVariables false
set_option linter.unusedSimpArgs false
set_option maxRecDepth 100000
variable {E : Nat → Option Fn}

theorem genOk_mk {m : Nat} {k i : Int} {s : List UInt8} {l : List Val} (hz : 1 + s.length / 16 + szL l ≤ m) (hk : k ≠ 7) (hl : l.length ≤ 3) (h : mayV (.mk k i s l) = true) (hs : ∀ x ∈ l, Small x) : GenOk m (.mk k i s l) :=
  ⟨by rw [szN]; exact hz, small_mk (by omega) hs, hl, h, hk⟩

abbrev zbox : Option Obj := some (.box [.d (.i .i64 0), .d (.i .i64 0), .d (.s []), .nil 4])

abbrev valQ (m : Nat) (l : List UInt8) : Ex → St → Prop := fun ex s => (ex = .normal ∨ ex = .ret) ∧ ∃ r, result 1 s c109.rets = some r ∧ ∃ v n', r = (Val.arg v, [pbox l n']) ∧ n' ≤ l.length ∧ GenOk m v

def elsOf : CCode → CCode
  | .seq _ (.cond _ _ e) => e
  | _ => .skip
def thnOf : CCode → CCode
  | .seq _ (.cond _ t _) => t
  | _ => .skip
def valB0 : CCode := match c109.body with
  | .seq _ (.seq (.seq _ (.block _ c)) _) => c
  | _ => .skip
def valStr : CCode := thnOf (elsOf (elsOf valB0))
def valList : CCode := thnOf (elsOf (elsOf (elsOf valB0)))
def valSet : CCode := thnOf (elsOf (elsOf (elsOf (elsOf valB0))))
def valEnv : CCode := match c109.body with
  | .seq _ (.seq _ c) => c
  | _ => .skip

theorem val_str {m : Nat} (hm : 3 ≤ m) {l : List UInt8} (hnum : NumC E l) {n : Nat} (hn : n ≤ l.length) {tm : List (Nat × V)} (t0 : look tm 0 = .ptr 0 0) (t4 : look tm 4 = .ptr 1 0) {Q : Ex → St → Prop} (hQ : ∀ s, valQ m l .ret s → Q .ret s) : WX E valStr ⟨tm, [pbox l n, zbox, none, none, none, none]⟩ Q := by
  obtain ⟨j, n2, hc2, j0, j1, hn2⟩ := hnum n hn 5 (by omega)
  obtain ⟨i, rfl⟩ : ∃ i : Nat, j = i := ⟨j.toNat, by omega⟩
  have ht : ∃ x, ([[.s []], [.s [97]], [.s [98]], [.s [97, 98]], [.s [97, 45, 116, 101, 120, 116, 45, 111, 102, 45, 50, 49, 45, 98, 121, 116, 101, 115, 45, 120, 120]]] : List (List D))[i]? = some [.s x] ∧ x.length ≤ 21 := by
    have : i = 0 ∨ i = 1 ∨ i = 2 ∨ i = 3 ∨ i = 4 := by omega
    rcases this with rfl | rfl | rfl | rfl | rfl <;> exact ⟨_, rfl, by decide⟩
  obtain ⟨x, hx, hxl⟩ := ht
  refine wx_seq (wx_region fun K hK => ?_)
  simp only [evW, evX, evM, evN, evC, far, ↓reduceIte, Nat.reduceEqDiff, Nat.reduceAdd, Nat.reduceLeDiff, Nat.reduceSub, Nat.reduceLT, reduceCtorEq, not_true_eq_false, not_false_eq_true, Int.reduceEq, Int.reduceLT, Int.reduceLE, Int.reduceNeg, t0, t4, hc2, j0, Int.toNat_natCast, hx]
  refine hK _ _ ?_; clear hK K
  refine wx_ret (hQ _ ⟨.inr rfl, _, ?_, .mk 3 0 x [], n2, rfl, hn2, genOk_mk (by rw [szL]; omega) (by decide) (by simp) (by simp [mayV, numOk, rowOk, mayL]) (by simp)⟩)
  simp only [evR, evX, evC, evN, ↓reduceIte, Nat.reduceEqDiff, Nat.reduceAdd, Nat.reduceLeDiff, Nat.reduceLT, Nat.reduceSub, reduceCtorEq, far, c109, t4, Val.arg, Val.kind, Val.i, Val.s, Val.l, valRows]

theorem val_list {m q : Nat} (hm : 1 + 3 * q ≤ m) {l : List UInt8} {deep : Nat} (hsome : SomeC E l q deep) {n : Nat} (hn : n ≤ l.length) {tm : List (Nat × V)} (t0 : look tm 0 = .ptr 0 0) (t1 : look tm 1 = .d (.i .i64 deep)) (t4 : look tm 4 = .ptr 1 0) {Q : Ex → St → Prop} (hQ : ∀ s, valQ m l .ret s → Q .ret s) : WX E valList ⟨tm, [pbox l n, zbox, none, none, none, none]⟩ Q := by
  obtain ⟨vs, n2, hc, hn2, hlen, hv⟩ := hsome n hn
  refine wx_seq (wx_region fun K hK => ?_)
  simp only [evW, evX, evM, evN, evC, far, ↓reduceIte, Nat.reduceEqDiff, Nat.reduceAdd, Nat.reduceLeDiff, Nat.reduceSub, Nat.reduceLT, reduceCtorEq, not_true_eq_false, not_false_eq_true, Int.reduceEq, Int.reduceLT, Int.reduceLE, Int.reduceNeg, t0, t1, t4, hc]
  refine hK _ _ ?_; clear hK K
  refine wx_ret (hQ _ ⟨.inr rfl, _, ?_, .mk 4 0 [] vs, n2, rfl, hn2, genOk_mk (by have := szL_of hv; have := Nat.mul_le_mul_right q hlen; simp only [List.length_nil]; omega) (by decide) hlen (by simp [mayV, numOk, rowOk, mayL_of hv]) (fun x hx => (hv x hx).small)⟩)
  simp only [evR, evX, evC, evN, ↓reduceIte, Nat.reduceEqDiff, Nat.reduceAdd, Nat.reduceLeDiff, Nat.reduceLT, Nat.reduceSub, reduceCtorEq, far, c109, t4, Val.arg, Val.kind, Val.i, Val.s, Val.l, valRows]

def InsC (E : Nat → Option Fn) : Prop := ∀ (ws : List Val) (v : Val), ws.length ≤ 1000 → (∀ x ∈ ws, Small x) → Small v → lcall E 117 [.d (.l 4 (valRows ws)), v.arg] [] = some (.d (.l 4 (valRows (insV ws v))), [])

def setLoop : CCode := match valSet with
  | .seq _ (.seq _ (.seq (.seq _ (.block _ (.loop _ c))) _)) => c
  | _ => .skip

abbrev lbox (k : Int) (ws : List Val) : Option Obj := some (.box [.d (.i .i64 k), .d (.i .i64 0), .d (.s []), .d (.l 4 (valRows ws))])

theorem set_loop {q : Nat} (hins : InsC E) {l : List UInt8} {n : Nat} {vs : List Val} (hvl : vs.length ≤ 3) (hv : ∀ x ∈ vs, GenOk q x) {Q : Ex → St → Prop}
    (hx : ∀ tm ws, look tm 4 = .ptr 1 0 → look tm 6 = .ptr 6 0 → ws.length ≤ 3 → (∀ x ∈ ws, GenOk q x) → chainB ltV ws = true → Q (.exit 1) ⟨tm, [pbox l n, zbox, none, none, none, none, lbox 5 ws, none, none, none, none]⟩) :
    ∀ (m i : Nat) (ws : List Val), i + m = vs.length → ws.length ≤ i → (∀ x ∈ ws, GenOk q x) → chainB ltV ws = true →
      LX E setLoop ⟨[4, 6, 7, 8], [], [], [], [(6, 3)], true⟩ 11 ⟨[(4, .ptr 1 0), (6, .ptr 6 0), (7, .d (.l 4 (valRows vs))), (8, .d (.i .i64 i))], [pbox l n, zbox, none, none, none, none, lbox 5 ws, none, none, none, none]⟩ Q := by
  intro m
  induction m with
  | zero =>
    intro i ws hi hw hok hch
    have hn : ¬ ((i : Int) < vs.length) := by omega
    refine lx_step (wx_seq (wx_seq ?_))
    refine wx_region fun K hK => ?_
    simp only [evW, evX, evM, evN, evC, far, ↓reduceIte, Nat.reduceEqDiff, Nat.reduceAdd, Nat.reduceLeDiff, Nat.reduceSub, Nat.reduceLT, reduceCtorEq, not_true_eq_false, not_false_eq_true, Int.reduceEq, Int.reduceLT, Int.reduceLE, Int.reduceNeg, valRows_length, hn]
    refine hK _ _ ?_; clear hK K
    refine wx_cond false rfl (fun h => by cases h) (fun _ => wx_exit ?_)
    exact hx _ ws rfl rfl (by omega) hok hch
  | succ m ih =>
    intro i ws hi hw hok hch
    have hy : (i : Int) < vs.length := by omega
    have la : i < vs.length := by omega
    have h0 : (0 : Int) ≤ i := by omega
    have ga : (valRows vs)[i]? = some (Val.row vs[i]) := by rw [valRows_get, List.getElem?_eq_getElem la]; rfl
    have hvi := hv vs[i] (List.getElem_mem la)
    have hcall := hins ws vs[i] (by omega) (fun x hx => (hok x hx).small) hvi.small
    generalize vs[i] = x at *
    have w : IntKind.i64.wrap ((i : Int) + 1) = ((i + 1 : Nat) : Int) := by rw [i64_in (by omega) (by omega)]; omega
    refine lx_step (wx_seq (wx_seq ?_))
    refine wx_region fun K hK => ?_
    simp only [evW, evX, evM, evN, evC, far, ↓reduceIte, Nat.reduceEqDiff, Nat.reduceAdd, Nat.reduceLeDiff, Nat.reduceSub, Nat.reduceLT, reduceCtorEq, not_true_eq_false, not_false_eq_true, Int.reduceEq, Int.reduceLT, Int.reduceLE, Int.reduceNeg, valRows_length, hy]
    refine hK _ _ ?_; clear hK K
    refine wx_cond true rfl (fun _ => wx_skip ?_) (fun h => by cases h)
    refine wx_seq (wx_block ?_)
    refine wx_regionT fun K hK => ?_
    simp only [evW, evX, evM, evN, evC, far, ↓reduceIte, Nat.reduceEqDiff, Nat.reduceAdd, Nat.reduceLeDiff, Nat.reduceSub, Nat.reduceLT, reduceCtorEq, not_true_eq_false, not_false_eq_true, Int.reduceEq, Int.reduceLT, Int.reduceLE, Int.reduceNeg, h0, Int.toNat_natCast, ga, row_eq, hcall]
    refine hK _ _ (by rfl) ?_; clear hK K
    refine wx_region fun K hK => ?_
    simp only [evW, evX, evM, evN, evC, far, ↓reduceIte, Nat.reduceEqDiff, Nat.reduceAdd, Nat.reduceLeDiff, Nat.reduceSub, Nat.reduceLT, reduceCtorEq, not_true_eq_false, not_false_eq_true, Int.reduceEq, Int.reduceLT, Int.reduceLE, Int.reduceNeg, w]
    refine hK _ _ ?_; clear hK K
    refine ⟨_, ?_, ih (i + 1) (insV ws x) (by omega) (by have := insV_length ws x; omega) (fun y hy => ?_) (insV_chain hch)⟩
    · simp only [evH, evX, evN, ↓reduceIte, Nat.reduceEqDiff, Nat.reduceAdd, Nat.reduceLeDiff, Nat.reduceLT, Nat.reduceSub, reduceCtorEq]
    · rcases insV_mem hy with h | h
      · exact hok y h
      · rw [h]; exact hvi

theorem val_set {m q : Nat} (hm : 1 + 3 * q ≤ m) (hins : InsC E) {l : List UInt8} {deep : Nat} (hsome : SomeC E l q deep) {n : Nat} (hn : n ≤ l.length) {tm : List (Nat × V)} (t0 : look tm 0 = .ptr 0 0) (t1 : look tm 1 = .d (.i .i64 deep)) (t4 : look tm 4 = .ptr 1 0) {Q : Ex → St → Prop} (hQ : ∀ s, valQ m l .ret s → Q .ret s) : WX E valSet ⟨tm, [pbox l n, zbox, none, none, none, none]⟩ Q := by
  obtain ⟨vs, n2, hc, hn2, hlen, hv⟩ := hsome n hn
  refine wx_seq (wx_region fun K hK => ?_)
  simp only [evW, evX, evM, evN, evC, far, ↓reduceIte, Nat.reduceEqDiff, Nat.reduceAdd, Nat.reduceLeDiff, Nat.reduceSub, Nat.reduceLT, reduceCtorEq, not_true_eq_false, not_false_eq_true, Int.reduceEq, Int.reduceLT, Int.reduceLE, Int.reduceNeg, t0, t1, t4]
  refine hK _ _ ?_; clear hK K
  refine wx_seq (wx_region fun K hK => ?_)
  simp only [evW, evX, evM, evN, evC, far, ↓reduceIte, Nat.reduceEqDiff, Nat.reduceAdd, Nat.reduceLeDiff, Nat.reduceSub, Nat.reduceLT, reduceCtorEq, not_true_eq_false, not_false_eq_true, Int.reduceEq, Int.reduceLT, Int.reduceLE, Int.reduceNeg, t0, t1, t4, hc]
  refine hK _ _ ?_; clear hK K
  refine wx_seq (wx_seq ?_)
  refine wx_region fun K hK => ?_
  simp only [evW, evX, evM, evN, evC, far, ↓reduceIte, Nat.reduceEqDiff, Nat.reduceAdd, Nat.reduceLeDiff, Nat.reduceSub, Nat.reduceLT, reduceCtorEq, not_true_eq_false, not_false_eq_true, Int.reduceEq, Int.reduceLT, Int.reduceLE, Int.reduceNeg]
  refine hK _ _ ?_; clear hK K
  refine wx_block (wx_loop ?_)
  simp only [evH, evX, evN, ↓reduceIte, Nat.reduceEqDiff, Nat.reduceAdd, Nat.reduceLeDiff, Nat.reduceLT, Nat.reduceSub, reduceCtorEq, t4]
  refine set_loop hins hlen hv (fun tm ws t4 t6 hl hok hch => ?_) vs.length 0 [] (by omega) (by simp) (by simp) rfl
  refine wx_seq (wx_region fun K hK => ?_)
  simp only [evW, evX, evM, evN, evC, far, ↓reduceIte, Nat.reduceEqDiff, Nat.reduceAdd, Nat.reduceLeDiff, Nat.reduceSub, Nat.reduceLT, reduceCtorEq, not_true_eq_false, not_false_eq_true, Int.reduceEq, Int.reduceLT, Int.reduceLE, Int.reduceNeg, t4, t6]
  refine hK _ _ ?_; clear hK K
  refine wx_ret (hQ _ ⟨.inr rfl, _, ?_, .mk 5 0 [] ws, n2, rfl, hn2, genOk_mk (by have := szL_of hok; have := Nat.mul_le_mul_right q hl; simp only [List.length_nil]; omega) (by decide) hl (by simp [mayV, numOk, rowOk, mayL_of hok, hch]) (fun x hx => (hok x hx).small)⟩)
  simp only [evR, evX, evC, evN, ↓reduceIte, Nat.reduceEqDiff, Nat.reduceAdd, Nat.reduceLeDiff, Nat.reduceLT, Nat.reduceSub, reduceCtorEq, far, c109, t4, Val.arg, Val.kind, Val.i, Val.s, Val.l, valRows]

def FindC (E : Nat → Option Fn) : Prop := ∀ (ws : List Val) (k : List UInt8), ws.length ≤ 1000 → lcall E 120 [.d (.l 4 (valRows ws)), .d (.s k)] [] = some (.tup [.d (.i .i64 (posK k ws : Nat)), .d (.b (hasK k ws))], [])

def envLoop : CCode := match valEnv with
  | .seq _ (.seq (.seq _ (.block _ (.loop _ c))) _) => c
  | _ => .skip

structure EnvInv (m : Nat) (ws : List Val) : Prop where
  ok : ∀ x ∈ ws, GenOk m x
  pair : ∀ x ∈ ws, pairV x = true
  chain : chainB ltK ws = true

theorem pair_len {x : Val} (h : pairV x = true) : x.l.length = 2 := by
  unfold pairV at h
  simp only [Bool.and_eq_true] at h
  have := h.2
  split at this
  · rename_i hl; rw [hl]; rfl
  · cases this

theorem env_ins {m : Nat} {ws : List Val} (h : EnvInv m ws) {k : List UInt8} (hk : hasK k ws = false) {p : Val} (hp : GenOk m p) (hpp : pairV p = true) (hkey : keyV p = k) : EnvInv m (ws.take (posK k ws) ++ [p] ++ ws.drop (posK k ws)) := by
  have mem : ∀ x, x ∈ ws.take (posK k ws) ++ [p] ++ ws.drop (posK k ws) → x ∈ ws ∨ x = p := fun x h => by
    simp only [List.mem_append, List.mem_singleton] at h
    rcases h with (h | h) | h
    · exact .inl (List.mem_of_mem_take h)
    · exact .inr h
    · exact .inl (List.mem_of_mem_drop h)
  refine ⟨fun x hx => ?_, fun x hx => ?_, ?_⟩
  · rcases mem x hx with h1 | rfl
    · exact h.ok x h1
    · exact hp
  · rcases mem x hx with h1 | rfl
    · exact h.pair x h1
    · exact hpp
  · refine chain_ins (pos := posK k) rfl (fun x r => ?_) ws h.chain (fun x hx => ?_)
    · simp only [posK, ltK, hkey]
    · have hge : ∀ (l : List Val) x, l[posK k l]? = some x → bytesLess (keyV x) k = false := by
        intro l
        induction l with
        | nil => intro x hx; simp at hx
        | cons y r ih =>
          intro x hx
          simp only [posK] at hx
          split at hx
          · exact ih x (by simpa using hx)
          · rename_i hb; simp at hx; subst hx; simpa using hb
      have h1 := hge ws x hx
      have h2 : keyV x ≠ k := fun e => by
        unfold hasK at hk
        rw [hx] at hk
        simp only [e, decide_true, Bool.and_true, decide_eq_false_iff_not] at hk
        have := pair_len (h.pair x (List.mem_of_getElem? hx))
        omega
      simp only [ltK, hkey]
      rcases bl_total k (keyV x) with h3 | h3 | h3
      · exact h3
      · exact absurd h3.symm h2
      · rw [h1] at h3; cases h3

set_option maxHeartbeats 1000000 in
theorem env_loop (hfind : FindC E) {l : List UInt8} (hnum : NumC E l) {deep : Nat} (hg : GenC E l deep) {w0 : Int} (hw0 : IntKind.i64.wrap (w0 - 1) = deep) {Q : Ex → St → Prop}
    (hx : ∀ tm ws n, look tm 4 = .ptr 1 0 → look tm 9 = .ptr 6 0 → n ≤ l.length → ws.length ≤ 3 → EnvInv (2 + bnd deep) ws → Q (.exit 3) ⟨tm, [pbox l n, zbox, none, none, none, none, lbox 6 ws, none, none, none, none]⟩) :
    ∀ (i : Nat) (ws : List Val) (n : Nat), i + ws.length ≤ 3 → n ≤ l.length → EnvInv (2 + bnd deep) ws →
      LX E envLoop ⟨[0, 1, 4, 9, 10], [], [], [], [(9, 3)], true⟩ 11 ⟨[(0, .ptr 0 0), (1, .d (.i .i64 w0)), (4, .ptr 1 0), (9, .ptr 6 0), (10, .d (.i .i64 i))], [pbox l n, zbox, none, none, none, none, lbox 6 ws, none, none, none, none]⟩ Q := by
  intro i
  induction i with
  | zero =>
    intro ws n hi hn hinv
    have h0 : ¬ ((0 : Int) < ((0 : Nat) : Int)) := by omega
    refine lx_step (wx_seq (wx_seq ?_))
    refine wx_region fun K hK => ?_
    simp only [evW, evX, evM, evN, evC, far, ↓reduceIte, Nat.reduceEqDiff, Nat.reduceAdd, Nat.reduceLeDiff, Nat.reduceSub, Nat.reduceLT, reduceCtorEq, not_true_eq_false, not_false_eq_true, Int.reduceEq, Int.reduceLT, Int.reduceLE, Int.reduceNeg, h0]
    refine hK _ _ ?_; clear hK K
    refine wx_cond false rfl (fun h => by cases h) (fun _ => wx_exit ?_)
    exact hx _ ws n rfl rfl hn (by omega) hinv
  | succ i ih =>
    intro ws n hi hn hinv
    have h0 : (0 : Int) < ((i + 1 : Nat) : Int) := by omega
    have w1 : IntKind.i64.wrap (((i + 1 : Nat) : Int) - 1) = (i : Int) := by rw [i64_in (by omega) (by omega)]; omega
    obtain ⟨j, n1, hc, j0, j1, hn1⟩ := hnum n hn 3 (by omega)
    obtain ⟨q, rfl⟩ : ∃ i : Nat, j = i := ⟨j.toNat, by omega⟩
    have ht : ∃ x, ([[.s [97]], [.s [98]], [.s [99]]] : List (List D))[q]? = some [.s x] ∧ x.length ≤ 1 := by
      have : q = 0 ∨ q = 1 ∨ q = 2 := by omega
      rcases this with rfl | rfl | rfl <;> exact ⟨_, rfl, by decide⟩
    obtain ⟨x, hx', hxl⟩ := ht
    have hf := hfind ws x (by omega)
    refine lx_step (wx_seq (wx_seq ?_))
    refine wx_region fun K hK => ?_
    simp only [evW, evX, evM, evN, evC, far, ↓reduceIte, Nat.reduceEqDiff, Nat.reduceAdd, Nat.reduceLeDiff, Nat.reduceSub, Nat.reduceLT, reduceCtorEq, not_true_eq_false, not_false_eq_true, Int.reduceEq, Int.reduceLT, Int.reduceLE, Int.reduceNeg, h0]
    refine hK _ _ ?_; clear hK K
    refine wx_cond true rfl (fun _ => wx_skip ?_) (fun h => by cases h)
    refine wx_seq (wx_block ?_)
    refine wx_seq (wx_region fun K hK => ?_)
    simp only [evW, evX, evM, evN, evC, far, ↓reduceIte, Nat.reduceEqDiff, Nat.reduceAdd, Nat.reduceLeDiff, Nat.reduceSub, Nat.reduceLT, reduceCtorEq, not_true_eq_false, not_false_eq_true, Int.reduceEq, Int.reduceLT, Int.reduceLE, Int.reduceNeg, hc, j0, Int.toNat_natCast, hx']
    refine hK _ _ ?_; clear hK K
    refine wx_seq (wx_region fun K hK => ?_)
    simp only [evW, evX, evM, evN, evC, far, ↓reduceIte, Nat.reduceEqDiff, Nat.reduceAdd, Nat.reduceLeDiff, Nat.reduceSub, Nat.reduceLT, reduceCtorEq, not_true_eq_false, not_false_eq_true, Int.reduceEq, Int.reduceLT, Int.reduceLE, Int.reduceNeg, hf]
    refine hK _ _ ?_; clear hK K
    cases hk : hasK x ws with
    | true =>
      refine wx_seq (wx_region fun K hK => ?_)
      simp only [evW, evX, evM, evN, evC, far, ↓reduceIte, Nat.reduceEqDiff, Nat.reduceAdd, Nat.reduceLeDiff, Nat.reduceSub, Nat.reduceLT, reduceCtorEq, not_true_eq_false, not_false_eq_true, Int.reduceEq, Int.reduceLT, Int.reduceLE, Int.reduceNeg]
      refine hK _ _ ?_; clear hK K
      refine wx_cond false rfl (fun h => by cases h) (fun _ => wx_skip ?_)
      refine wx_region fun K hK => ?_
      simp only [evW, evX, evM, evN, evC, far, ↓reduceIte, Nat.reduceEqDiff, Nat.reduceAdd, Nat.reduceLeDiff, Nat.reduceSub, Nat.reduceLT, reduceCtorEq, not_true_eq_false, not_false_eq_true, Int.reduceEq, Int.reduceLT, Int.reduceLE, Int.reduceNeg, w1]
      refine hK _ _ ?_; clear hK K
      refine ⟨_, ?_, ih ws n1 (by omega) hn1 hinv⟩
      simp only [evH, evX, evN, ↓reduceIte, Nat.reduceEqDiff, Nat.reduceAdd, Nat.reduceLeDiff, Nat.reduceLT, Nat.reduceSub, reduceCtorEq]
    | false =>
      obtain ⟨v, n2, hcv, hn2, hok⟩ := hg n1 hn1
      have hle := posK_le x ws
      have p0 : (0 : Int) ≤ (posK x ws : Nat) := by omega
      have hle' : ((posK x ws : Nat) : Int) ≤ ws.length := by omega
      have hlen : (ws.take (posK x ws)).length = posK x ws := by simp; omega
      have hlen2 : (ws.drop (posK x ws)).length = ws.length - posK x ws := by simp
      have r1 : roomy ((posK x ws)) 56 = true := roomy_in (by omega)
      have r2 : roomy (posK x ws + 1) 56 = true := roomy_in (by omega)
      have r3 : roomy (posK x ws + 1 + (ws.length - posK x ws)) 56 = true := roomy_in (by omega)
      have hg7 : decide (v.kind = 7) = false := by simp [hok.good]
      have hk3 : (Val.mk 3 0 x []).kind = 3 := rfl
      let p : Val := .mk 4 0 [] [.mk 3 0 x [], v]
      have hp : GenOk (2 + bnd deep) p := genOk_mk (by have := hok.size; simp only [szL, szN, List.length_nil]; omega) (by decide) (by simp) (by simp [mayV, mayL, numOk, rowOk, hok.may, hg7, hk3]) (fun y hy => by
        simp only [List.mem_cons, List.not_mem_nil, or_false] at hy
        rcases hy with rfl | rfl
        · exact small_mk (by simp) (by simp)
        · exact hok.small)
      have hpp : pairV p = true := by simp [pairV, p, Val.kind, Val.l]
      have hkey : keyV p = x := by simp [keyV, p, Val.l, Val.s]
      refine wx_seq (wx_region fun K hK => ?_)
      simp only [evW, evX, evM, evN, evC, far, ↓reduceIte, Nat.reduceEqDiff, Nat.reduceAdd, Nat.reduceLeDiff, Nat.reduceSub, Nat.reduceLT, reduceCtorEq, not_true_eq_false, not_false_eq_true, Int.reduceEq, Int.reduceLT, Int.reduceLE, Int.reduceNeg]
      refine hK _ _ ?_; clear hK K
      refine wx_cond true rfl (fun _ => ?_) (fun h => by cases h)
      refine wx_seq (wx_regionT fun K hK => ?_)
      simp only [evW, evX, evM, evN, evC, far, ↓reduceIte, Nat.reduceEqDiff, Nat.reduceAdd, Nat.reduceLeDiff, Nat.reduceSub, Nat.reduceLT, reduceCtorEq, not_true_eq_false, not_false_eq_true, Int.reduceEq, Int.reduceLT, Int.reduceLE, Int.reduceNeg, hw0, hcv]
      refine hK _ _ (by rfl) ?_; clear hK K
      refine wx_regionT fun K hK => ?_
      simp only [evW, evX, evM, evN, evC, far, ↓reduceIte, Nat.reduceEqDiff, Nat.reduceAdd, Nat.reduceLeDiff, Nat.reduceSub, Nat.reduceLT, reduceCtorEq, not_true_eq_false, not_false_eq_true, Int.reduceEq, Int.reduceLT, Int.reduceLE, Int.reduceNeg, valRows_length, p0, hle', Int.toNat_natCast, valRows_take, valRows_drop, hlen, hlen2, List.length_append, r1, r2, r3, List.take_length]
      refine hK _ _ (by rfl) ?_; clear hK K
      have hrow : valRows (ws.take (posK x ws)) ++ [[.i .i64 4, .i .i64 0, .s [], .l 4 [[.i .i64 3, .i .i64 0, .s x, .l 4 []], [.i .i64 v.kind, .i .i64 v.i, .s v.s, .l 4 (valRows v.l)]]]] ++ valRows (ws.drop (posK x ws)) = valRows (ws.take (posK x ws) ++ [p] ++ ws.drop (posK x ws)) := by
        simp [valRows_eq, p, Val.row, valRows, row_eq]
      refine wx_region fun K hK => ?_
      simp only [evW, evX, evM, evN, evC, far, ↓reduceIte, Nat.reduceEqDiff, Nat.reduceAdd, Nat.reduceLeDiff, Nat.reduceSub, Nat.reduceLT, reduceCtorEq, not_true_eq_false, not_false_eq_true, Int.reduceEq, Int.reduceLT, Int.reduceLE, Int.reduceNeg, w1, hrow]
      refine hK _ _ ?_; clear hK K
      refine ⟨_, ?_, ih (ws.take (posK x ws) ++ [p] ++ ws.drop (posK x ws)) n2 (by simp; omega) hn2 (env_ins hinv hk hp hpp hkey)⟩
      simp only [evH, evX, evN, ↓reduceIte, Nat.reduceEqDiff, Nat.reduceAdd, Nat.reduceLeDiff, Nat.reduceLT, Nat.reduceSub, reduceCtorEq, hrow]

theorem val_env {m : Nat} {deep : Nat} (hm : 1 + 3 * (2 + bnd deep) ≤ m) (hfind : FindC E) {l : List UInt8} (hnum : NumC E l) (hg : GenC E l deep) {w0 : Int} (hw0 : IntKind.i64.wrap (w0 - 1) = deep) {n : Nat} (hn : n ≤ l.length) {tm : List (Nat × V)} (t0 : look tm 0 = .ptr 0 0) (t1 : look tm 1 = .d (.i .i64 w0)) (t4 : look tm 4 = .ptr 1 0) {Q : Ex → St → Prop} (hQ : ∀ s, valQ m l .ret s → Q .ret s) :
    WX E valEnv ⟨tm, [pbox l n, zbox, none, none, none, none]⟩ Q := by
  obtain ⟨k, n1, hc, k0, k1, hn1⟩ := hnum n hn 3 (by omega)
  obtain ⟨q, rfl⟩ : ∃ i : Nat, k = i := ⟨k.toNat, by omega⟩
  refine wx_seq (wx_region fun K hK => ?_)
  simp only [evW, evX, evM, evN, evC, far, ↓reduceIte, Nat.reduceEqDiff, Nat.reduceAdd, Nat.reduceLeDiff, Nat.reduceSub, Nat.reduceLT, reduceCtorEq, not_true_eq_false, not_false_eq_true, Int.reduceEq, Int.reduceLT, Int.reduceLE, Int.reduceNeg, t0, t1, t4]
  refine hK _ _ ?_; clear hK K
  refine wx_seq (wx_seq ?_)
  refine wx_region fun K hK => ?_
  simp only [evW, evX, evM, evN, evC, far, ↓reduceIte, Nat.reduceEqDiff, Nat.reduceAdd, Nat.reduceLeDiff, Nat.reduceSub, Nat.reduceLT, reduceCtorEq, not_true_eq_false, not_false_eq_true, Int.reduceEq, Int.reduceLT, Int.reduceLE, Int.reduceNeg, t0, t1, t4, hc]
  refine hK _ _ ?_; clear hK K
  refine wx_block (wx_loop ?_)
  simp only [evH, evX, evN, ↓reduceIte, Nat.reduceEqDiff, Nat.reduceAdd, Nat.reduceLeDiff, Nat.reduceLT, Nat.reduceSub, reduceCtorEq, t0, t1, t4]
  refine env_loop hfind hnum hg hw0 (fun tm ws n2 t4 t9 hn2 hl hinv => ?_) q [] n1 (by simp; omega) hn1 ⟨by simp, by simp, rfl⟩
  have hall : ws.all pairV = true := List.all_eq_true.2 hinv.pair
  refine wx_seq (wx_region fun K hK => ?_)
  simp only [evW, evX, evM, evN, evC, far, ↓reduceIte, Nat.reduceEqDiff, Nat.reduceAdd, Nat.reduceLeDiff, Nat.reduceSub, Nat.reduceLT, reduceCtorEq, not_true_eq_false, not_false_eq_true, Int.reduceEq, Int.reduceLT, Int.reduceLE, Int.reduceNeg, t4, t9]
  refine hK _ _ ?_; clear hK K
  refine wx_ret (hQ _ ⟨.inr rfl, _, ?_, .mk 6 0 [] ws, n2, rfl, hn2, genOk_mk (by have := szL_of hinv.ok; have := Nat.mul_le_mul_right (2 + bnd deep) hl; simp only [List.length_nil]; omega) (by decide) hl (by simp [mayV, numOk, rowOk, mayL_of hinv.ok, hinv.chain]; exact hinv.pair) (fun x hx => (hinv.ok x hx).small)⟩)
  simp only [evR, evX, evC, evN, ↓reduceIte, Nat.reduceEqDiff, Nat.reduceAdd, Nat.reduceLeDiff, Nat.reduceLT, Nat.reduceSub, reduceCtorEq, far, c109, t4, Val.arg, Val.kind, Val.i, Val.s, Val.l, valRows]

set_option maxHeartbeats 1000000 in
theorem val_ok (h109 : E 109 = some (.code c109)) (hins : InsC E) (hfind : FindC E) {l : List UInt8} (hnum : NumC E l) {deep : Nat} (hd : deep ≤ 100) (hsome : ∀ d, deep = d + 1 → SomeC E l (bnd d) deep) (hgen : ∀ d, deep = d + 1 → GenC E l d) : GenC E l deep := by
  intro n hn
  obtain ⟨k, n1, hc, k0, k1, hn1⟩ := hnum n hn 9 (by omega)
  have hb3 : 3 ≤ bnd deep := by cases deep <;> simp only [bnd] <;> omega
  have : ∃ r, lcall E 109 [.ptr 0 0, .d (.i .i64 deep)] [pbox l n] = some r ∧ ∃ v n', r = (Val.arg v, [pbox l n']) ∧ n' ≤ l.length ∧ GenOk (bnd deep) v := by
    refine call_wxP h109 ?_
    refine wx_seq (wx_region fun K hK => ?_)
    simp only [evW, evX, evM, evN, evC, far, ↓reduceIte, Nat.reduceEqDiff, Nat.reduceAdd, Nat.reduceLeDiff, Nat.reduceSub, Nat.reduceLT, reduceCtorEq, not_true_eq_false, not_false_eq_true, Int.reduceEq, Int.reduceLT, Int.reduceLE, Int.reduceNeg]
    refine hK _ _ ?_; clear hK K
    refine wx_seq (wx_seq ?_)
    refine wx_region fun K hK => ?_
    simp only [evW, evX, evM, evN, evC, far, ↓reduceIte, Nat.reduceEqDiff, Nat.reduceAdd, Nat.reduceLeDiff, Nat.reduceSub, Nat.reduceLT, reduceCtorEq, not_true_eq_false, not_false_eq_true, Int.reduceEq, Int.reduceLT, Int.reduceLE, Int.reduceNeg, hc]
    refine hK _ _ ?_; clear hK K
    refine wx_block ?_
    by_cases hk3 : k < 3
    · refine wx_seq (wx_region fun K hK => ?_)
      simp only [evW, evX, evM, evN, evC, far, ↓reduceIte, Nat.reduceEqDiff, Nat.reduceAdd, Nat.reduceLeDiff, Nat.reduceSub, Nat.reduceLT, reduceCtorEq, not_true_eq_false, not_false_eq_true, Int.reduceEq, Int.reduceLT, Int.reduceLE, Int.reduceNeg, hk3]
      refine hK _ _ ?_; clear hK K
      refine wx_cond true rfl (fun _ => ?_) (fun h => by cases h)
      obtain ⟨j, n2, hc2, j0, j1, hn2⟩ := hnum n1 hn1 7 (by omega)
      obtain ⟨i, rfl⟩ : ∃ i : Nat, j = i := ⟨j.toNat, by omega⟩
      have ht : ∃ x, ([[.i .i64 0], [.i .i64 1], [.i .i64 2], [.i .i64 (-1)], [.i .i64 7], [.i .i64 9223372036854775807], [.i .i64 (-9223372036854775808)]] : List (List D))[i]? = some [.i .i64 x] := by
        have : i = 0 ∨ i = 1 ∨ i = 2 ∨ i = 3 ∨ i = 4 ∨ i = 5 ∨ i = 6 := by omega
        rcases this with rfl | rfl | rfl | rfl | rfl | rfl | rfl <;> exact ⟨_, rfl⟩
      obtain ⟨x, hx⟩ := ht
      refine wx_seq (wx_region fun K hK => ?_)
      simp only [evW, evX, evM, evN, evC, far, ↓reduceIte, Nat.reduceEqDiff, Nat.reduceAdd, Nat.reduceLeDiff, Nat.reduceSub, Nat.reduceLT, reduceCtorEq, not_true_eq_false, not_false_eq_true, Int.reduceEq, Int.reduceLT, Int.reduceLE, Int.reduceNeg, hc2, j0, Int.toNat_natCast, hx]
      refine hK _ _ ?_; clear hK K
      refine wx_ret ⟨.inr rfl, _, ?_, .mk 1 x [] [], n2, rfl, hn2, genOk_mk (by simp only [szL, List.length_nil]; omega) (by decide) (by simp) (by simp [mayV, numOk, rowOk, mayL]) (by simp)⟩
      simp only [evR, evX, evC, evN, ↓reduceIte, Nat.reduceEqDiff, Nat.reduceAdd, Nat.reduceLeDiff, Nat.reduceLT, Nat.reduceSub, reduceCtorEq, far, c109, Val.arg, Val.kind, Val.i, Val.s, Val.l, valRows]
    · refine wx_seq (wx_region fun K hK => ?_)
      simp only [evW, evX, evM, evN, evC, far, ↓reduceIte, Nat.reduceEqDiff, Nat.reduceAdd, Nat.reduceLeDiff, Nat.reduceSub, Nat.reduceLT, reduceCtorEq, not_true_eq_false, not_false_eq_true, Int.reduceEq, Int.reduceLT, Int.reduceLE, Int.reduceNeg, hk3]
      refine hK _ _ ?_; clear hK K
      refine wx_cond false rfl (fun h => by cases h) (fun _ => ?_)
      by_cases hk4 : k = 3
      · refine wx_seq (wx_region fun K hK => ?_)
        simp only [evW, evX, evM, evN, evC, far, ↓reduceIte, Nat.reduceEqDiff, Nat.reduceAdd, Nat.reduceLeDiff, Nat.reduceSub, Nat.reduceLT, reduceCtorEq, not_true_eq_false, not_false_eq_true, Int.reduceEq, Int.reduceLT, Int.reduceLE, Int.reduceNeg, eq_true hk4]
        refine hK _ _ ?_; clear hK K
        refine wx_cond true rfl (fun _ => ?_) (fun h => by cases h)
        obtain ⟨j, n2, hc2, j0, j1, hn2⟩ := hnum n1 hn1 2 (by omega)
        refine wx_seq (wx_region fun K hK => ?_)
        simp only [evW, evX, evM, evN, evC, far, ↓reduceIte, Nat.reduceEqDiff, Nat.reduceAdd, Nat.reduceLeDiff, Nat.reduceSub, Nat.reduceLT, reduceCtorEq, not_true_eq_false, not_false_eq_true, Int.reduceEq, Int.reduceLT, Int.reduceLE, Int.reduceNeg, hc2]
        refine hK _ _ ?_; clear hK K
        refine wx_ret ⟨.inr rfl, _, ?_, .mk 2 j [] [], n2, rfl, hn2, genOk_mk (by simp only [szL, List.length_nil]; omega) (by decide) (by simp) (by have this : j = 0 ∨ j = 1 := (by omega); simp [mayV, numOk, rowOk, mayL, this]) (by simp)⟩
        simp only [evR, evX, evC, evN, ↓reduceIte, Nat.reduceEqDiff, Nat.reduceAdd, Nat.reduceLeDiff, Nat.reduceLT, Nat.reduceSub, reduceCtorEq, far, c109, Val.arg, Val.kind, Val.i, Val.s, Val.l, valRows]
      · refine wx_seq (wx_region fun K hK => ?_)
        simp only [evW, evX, evM, evN, evC, far, ↓reduceIte, Nat.reduceEqDiff, Nat.reduceAdd, Nat.reduceLeDiff, Nat.reduceSub, Nat.reduceLT, reduceCtorEq, not_true_eq_false, not_false_eq_true, Int.reduceEq, Int.reduceLT, Int.reduceLE, Int.reduceNeg, hk4]
        refine hK _ _ ?_; clear hK K
        refine wx_cond false rfl (fun h => by cases h) (fun _ => ?_)
        by_cases hk5 : k = 4
        · refine wx_seq (wx_region fun K hK => ?_)
          simp only [evW, evX, evM, evN, evC, far, ↓reduceIte, Nat.reduceEqDiff, Nat.reduceAdd, Nat.reduceLeDiff, Nat.reduceSub, Nat.reduceLT, reduceCtorEq, not_true_eq_false, not_false_eq_true, Int.reduceEq, Int.reduceLT, Int.reduceLE, Int.reduceNeg, eq_true hk5]
          refine hK _ _ ?_; clear hK K
          refine wx_cond true rfl (fun _ => ?_) (fun h => by cases h)
          refine val_str hb3 hnum hn1 ?_ ?_ (fun s h => h) <;> rfl
        · by_cases hd0 : (deep : Int) = 0
          · refine wx_seq (wx_region fun K hK => ?_)
            simp only [evW, evX, evM, evN, evC, far, ↓reduceIte, Nat.reduceEqDiff, Nat.reduceAdd, Nat.reduceLeDiff, Nat.reduceSub, Nat.reduceLT, reduceCtorEq, not_true_eq_false, not_false_eq_true, Int.reduceEq, Int.reduceLT, Int.reduceLE, Int.reduceNeg, hk5, eq_true hd0]
            refine hK _ _ ?_; clear hK K
            refine wx_cond true rfl (fun _ => ?_) (fun h => by cases h)
            refine val_str hb3 hnum hn1 ?_ ?_ (fun s h => h) <;> rfl
          · refine wx_seq (wx_region fun K hK => ?_)
            simp only [evW, evX, evM, evN, evC, far, ↓reduceIte, Nat.reduceEqDiff, Nat.reduceAdd, Nat.reduceLeDiff, Nat.reduceSub, Nat.reduceLT, reduceCtorEq, not_true_eq_false, not_false_eq_true, Int.reduceEq, Int.reduceLT, Int.reduceLE, Int.reduceNeg, hk5, hd0]
            refine hK _ _ ?_; clear hK K
            refine wx_cond false rfl (fun h => by cases h) (fun _ => ?_)
            by_cases hk6 : k = 5
            · refine wx_seq (wx_region fun K hK => ?_)
              simp only [evW, evX, evM, evN, evC, far, ↓reduceIte, Nat.reduceEqDiff, Nat.reduceAdd, Nat.reduceLeDiff, Nat.reduceSub, Nat.reduceLT, reduceCtorEq, not_true_eq_false, not_false_eq_true, Int.reduceEq, Int.reduceLT, Int.reduceLE, Int.reduceNeg, eq_true hk6]
              refine hK _ _ ?_; clear hK K
              refine wx_cond true rfl (fun _ => ?_) (fun h => by cases h)
              obtain ⟨d', rfl⟩ : ∃ d', deep = d' + 1 := ⟨deep - 1, by omega⟩
              refine val_list (q := bnd d') (by simp only [bnd]; omega) (hsome d' rfl) hn1 ?_ ?_ ?_ (fun s h => h) <;> rfl
            · refine wx_seq (wx_region fun K hK => ?_)
              simp only [evW, evX, evM, evN, evC, far, ↓reduceIte, Nat.reduceEqDiff, Nat.reduceAdd, Nat.reduceLeDiff, Nat.reduceSub, Nat.reduceLT, reduceCtorEq, not_true_eq_false, not_false_eq_true, Int.reduceEq, Int.reduceLT, Int.reduceLE, Int.reduceNeg, hk6]
              refine hK _ _ ?_; clear hK K
              refine wx_cond false rfl (fun h => by cases h) (fun _ => ?_)
              by_cases hk7 : k = 6
              · refine wx_seq (wx_region fun K hK => ?_)
                simp only [evW, evX, evM, evN, evC, far, ↓reduceIte, Nat.reduceEqDiff, Nat.reduceAdd, Nat.reduceLeDiff, Nat.reduceSub, Nat.reduceLT, reduceCtorEq, not_true_eq_false, not_false_eq_true, Int.reduceEq, Int.reduceLT, Int.reduceLE, Int.reduceNeg, eq_true hk7]
                refine hK _ _ ?_; clear hK K
                refine wx_cond true rfl (fun _ => ?_) (fun h => by cases h)
                obtain ⟨d', rfl⟩ : ∃ d', deep = d' + 1 := ⟨deep - 1, by omega⟩
                refine val_set (q := bnd d') (by simp only [bnd]; omega) hins (hsome d' rfl) hn1 ?_ ?_ ?_ (fun s h => h) <;> rfl
              · refine wx_seq (wx_region fun K hK => ?_)
                simp only [evW, evX, evM, evN, evC, far, ↓reduceIte, Nat.reduceEqDiff, Nat.reduceAdd, Nat.reduceLeDiff, Nat.reduceSub, Nat.reduceLT, reduceCtorEq, not_true_eq_false, not_false_eq_true, Int.reduceEq, Int.reduceLT, Int.reduceLE, Int.reduceNeg, hk7]
                refine hK _ _ ?_; clear hK K
                refine wx_cond false rfl (fun h => by cases h) (fun _ => wx_skip ?_)
                obtain ⟨d', rfl⟩ : ∃ d', deep = d' + 1 := ⟨deep - 1, by omega⟩
                have hw0 : IntKind.i64.wrap (((d' + 1 : Nat) : Int) - 1) = d' := by rw [i64_in (by omega) (by omega)]; omega
                refine val_env (deep := d') (by simp only [bnd]; omega) hfind hnum (hgen d' rfl) hw0 hn1 ?_ ?_ ?_ (fun s h => h) <;> rfl
  obtain ⟨r, h1, v, n', rfl, h2⟩ := this
  exact ⟨v, n', h1, h2⟩

theorem gen_ok (h109 : E 109 = some (.code c109)) (h124 : E 124 = some (.code c124)) (hins : InsC E) (hfind : FindC E) {l : List UInt8} (hnum : NumC E l) : ∀ (deep : Nat), deep ≤ 100 → GenC E l deep
  | 0, hd => val_ok h109 hins hfind hnum hd (fun d h => by omega) (fun d h => by omega)
  | d + 1, hd => by
    have ih := gen_ok h109 h124 hins hfind hnum d (by omega)
    exact val_ok h109 hins hfind hnum hd (fun d' h => by cases h; exact some_ok h124 hnum (by omega) ih) (fun d' h => by cases h; exact ih)
end Ab
