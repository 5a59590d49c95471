/-
 Rows that are looked through: slices.IndexFunc, slices.ContainsFunc, whatever their elements' size.
-/
import Derived.Test.YtblhbdagpefloaaGreatDoorPack4
import Derived.IntWalk
namespace Ab
open Go
set_option linter.unusedVariables false
set_option linter.unusedSimpArgs false
set_option maxRecDepth 100000
theorem i64w {n : Int} (h1 : -9223372036854775808 ≤ n) (h2 : n ≤ 9223372036854775807) : IntKind.i64.wrap n = n := Go.IntWalk.i64_in n ⟨h1, h2⟩
theorem refs_ofDs : ∀ (ds : List D), V.refsAll (ofDs ds) = []
 | [] => by simp [ofDs, V.refsAll]
 | x :: r => by
  have := refs_ofDs r
  simp only [ofDs, List.map_cons] at this ⊢
  simp [V.refsAll, V.refs, this]
theorem ren_ofDs (f sh : Nat → Nat) : ∀ (ds : List D), V.renAll f sh (ofDs ds) = ofDs ds
 | [] => by simp [ofDs, V.renAll]
 | x :: r => by
  have := ren_ofDs f sh r
  simp only [ofDs, List.map_cons] at this ⊢
  simp [V.renAll, V.ren, this]
theorem evY :
  (∀ (a b c d e : V) (r : List V), takeV (a :: b :: c :: d :: e :: r) 0 5 = some [a, b, c, d, e]) ∧
  (∀ (a b c d e f : V) (r : List V), takeV (a :: b :: c :: d :: e :: f :: r) 0 6 = some [a, b, c, d, e, f]) ∧
  (∀ (a b c d e f g : V) (r : List V), takeV (a :: b :: c :: d :: e :: f :: g :: r) 0 7 = some [a, b, c, d, e, f, g]) ∧
  (∀ (a b c d e f g h : V) (r : List V), takeV (a :: b :: c :: d :: e :: f :: g :: h :: r) 0 8 = some [a, b, c, d, e, f, g, h]) ∧
  (∀ (a b c d e f g h i : V) (r : List V), takeV (a :: b :: c :: d :: e :: f :: g :: h :: i :: r) 0 9 = some [a, b, c, d, e, f, g, h, i]) ∧
  (∀ (a b c d e f g h i j : V) (r : List V), takeV (a :: b :: c :: d :: e :: f :: g :: h :: i :: j :: r) 0 10 = some [a, b, c, d, e, f, g, h, i, j]) ∧
  (∀ (a b c d e f g h i j k : V) (r : List V), takeV (a :: b :: c :: d :: e :: f :: g :: h :: i :: j :: k :: r) 0 11 = some [a, b, c, d, e, f, g, h, i, j, k]) ∧
  (∀ (a b c d e f g h i j k l : V) (r : List V), takeV (a :: b :: c :: d :: e :: f :: g :: h :: i :: j :: k :: l :: r) 0 12 = some [a, b, c, d, e, f, g, h, i, j, k, l]) := by
 refine ⟨?_, ?_, ?_, ?_, ?_, ?_, ?_, ?_⟩ <;> intros <;> simp [takeV]
@[reducible] def oo (d : Nat) (c : Cop) : CO := ⟨some d, c, none, 0⟩
theorem oo_eq (d : Nat) (c : Cop) : oo d c = ⟨some d, c, none, 0⟩ := rfl
theorem far_eq : far = 4096 := rfl
set_option linter.defProp false in
def evPl := And.intro @List.getD_cons_zero.{0} (And.intro @List.getD_cons_succ.{0} (And.intro @Bool.or_self (And.intro @Bool.or_false (And.intro @Bool.false_or (And.intro @Bool.or_true (And.intro @Bool.true_or (And.intro @Bool.and_true (And.intro @Bool.true_and (And.intro @Bool.and_self (And.intro @Bool.and_false (And.intro @Bool.false_and (And.intro @Bool.not_false (And.intro @Bool.not_true (And.intro Bool.false_eq_true (And.intro not_true_eq_false (And.intro not_false_eq_true (And.intro @true_and (And.intro @Int.toNat_natCast (And.intro @Int.cast_ofNat_Int far_eq)))))))))))))))))))
set_option linter.defProp false in
def evAll := And.intro oo_eq (And.intro evPl (And.intro evY (And.intro evQ (And.intro evK (And.intro evG (And.intro evW (And.intro evX (And.intro evM (And.intro evN (And.intro evC (And.intro evR evH)))))))))))
section
variable {E : Nat → Option Fn} {α : Type}
end
end Ab
