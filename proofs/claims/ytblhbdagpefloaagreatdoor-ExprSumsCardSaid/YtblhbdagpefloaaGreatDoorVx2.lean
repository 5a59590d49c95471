/-
 How values stand: the document's answer.
-/
import Derived.Test.YtblhbdagpefloaaGreatDoorVx1
namespace Ab.Vx
open Go
set_option linter.unusedVariables false
set_option linter.unusedSimpArgs false
set_option maxRecDepth 100000
variable {E : Nat → Option Fn}
def sgn (less : Bool) : Int := if less then -1 else 1
mutual
def cmpV : GVal → GVal → Int
 | .mk k i s l, .mk k' i' s' l' => if k = k' then if i = i' then if s = s' then cmpL l l' else sgn (bytesLess s s') else sgn (decide (i < i')) else sgn (decide (k < k'))
def cmpL : List GVal → List GVal → Int
 | [], [] => 0
 | [], _ :: _ => -1
 | _ :: _, [] => 1
 | x :: xs, y :: ys => if cmpV x y = 0 then cmpL xs ys else cmpV x y
end
theorem cmpV_eq (a b : GVal) : cmpV a b = if a.kind = b.kind then if a.i = b.i then if a.s = b.s then cmpL a.l b.l else sgn (bytesLess a.s b.s) else sgn (decide (a.i < b.i)) else sgn (decide (a.kind < b.kind)) := by
 cases a; cases b; simp only [cmpV, GVal.kind, GVal.i, GVal.s, GVal.l]; rfl
inductive Small : GVal → Prop where
 | mk {v : GVal} (h : v.l.length ≤ 1000) (hs : ∀ x ∈ v.l, Small x) : Small v
theorem Small.len {v : GVal} (h : Small v) : v.l.length ≤ 1000 := by cases h; assumption
theorem Small.sub {v : GVal} (h : Small v) : ∀ x ∈ v.l, Small x := by cases h; assumption
theorem drop_cons {α : Type} {l : List α} {i : Nat} (h : i < l.length) : l.drop i = l[i] :: l.drop (i + 1) := List.drop_eq_getElem_cons h
abbrev vbox (v : GVal) : Option Obj := some (.box [.d (.i .i64 v.kind), .d (.i .i64 v.i), .d (.s v.s), .d (.l 4 (gvalRows v.l))])
end Ab.Vx
