/-
 Numbers of 64 bits: signs of what is put together bit by bit; products that fit.
-/
import Derived.Test.YtblhbdagpefloaaGreatDoorW1
namespace Ab.Vx
open Go
set_option linter.unusedVariables false
abbrev lo64 : Int := -9223372036854775808
abbrev hi64 : Int := 9223372036854775807
def fits (n : Int) : Prop := lo64 ≤ n ∧ n ≤ hi64
instance (n : Int) : Decidable (fits n) := inferInstanceAs (Decidable (_ ∧ _))
def xorI (x y : Int) : Int := IntKind.i64.wrap (BitVec.ofInt IntKind.i64.bits x ^^^ BitVec.ofInt IntKind.i64.bits y).toNat
def andI (x y : Int) : Int := IntKind.i64.wrap (BitVec.ofInt IntKind.i64.bits x &&& BitVec.ofInt IntKind.i64.bits y).toNat
theorem wrap_toNat (v : BitVec 64) : IntKind.i64.wrap (v.toNat : Int) = v.toInt := by
 have h := v.isLt
 rw [IntKind.wrap_i64, BitVec.toInt_eq_toNat_cond]
 split <;> omega
theorem toInt_ofInt' {x : Int} (h : fits x) : (BitVec.ofInt 64 x).toInt = x := by
 obtain ⟨h1, h2⟩ := h
 simp only [lo64, hi64] at h1 h2
 rw [BitVec.toInt_ofInt, Int.bmod_eq_of_le (by omega) (by omega)]
theorem msb_ofInt {x : Int} (h : fits x) : (BitVec.ofInt 64 x).msb = decide (x < 0) := by
 rw [BitVec.msb_eq_toInt, toInt_ofInt' h]
theorem toInt_fits (v : BitVec 64) : fits v.toInt := by
 have h := v.isLt
 unfold fits
 rw [BitVec.toInt_eq_toNat_cond]
 split <;> simp [lo64, hi64] <;> omega
theorem xorI_neg {x y : Int} (hx : fits x) (hy : fits y) : decide (xorI x y < 0) = (decide (x < 0) != decide (y < 0)) := by
 show decide (IntKind.i64.wrap ((BitVec.ofInt 64 x ^^^ BitVec.ofInt 64 y : BitVec 64).toNat : Int) < 0) = _
 rw [wrap_toNat, ← BitVec.msb_eq_toInt, BitVec.msb_xor, msb_ofInt hx, msb_ofInt hy]
theorem xorI_fits (x y : Int) : fits (xorI x y) := by
 show fits (IntKind.i64.wrap ((BitVec.ofInt 64 x ^^^ BitVec.ofInt 64 y : BitVec 64).toNat : Int))
 rw [wrap_toNat]; exact toInt_fits _
theorem andI_neg {x y : Int} (hx : fits x) (hy : fits y) : decide (andI x y < 0) = (decide (x < 0) && decide (y < 0)) := by
 show decide (IntKind.i64.wrap ((BitVec.ofInt 64 x &&& BitVec.ofInt 64 y : BitVec 64).toNat : Int) < 0) = _
 rw [wrap_toNat, ← BitVec.msb_eq_toInt, BitVec.msb_and, msb_ofInt hx, msb_ofInt hy]
theorem wrap_fits (n : Int) : fits (IntKind.i64.wrap n) := by
 unfold fits; rw [IntKind.wrap_i64]; simp only [lo64, hi64]; omega
theorem wrap_of {n : Int} (h : fits n) : IntKind.i64.wrap n = n := i64w h.1 h.2
theorem add_over {a b : Int} (ha : fits a) (hb : fits b) : decide (andI (xorI a (IntKind.i64.wrap (a + b))) (xorI b (IntKind.i64.wrap (a + b))) < 0) = !decide (fits (a + b)) := by
 rw [andI_neg (xorI_fits _ _) (xorI_fits _ _), xorI_neg ha (wrap_fits _), xorI_neg hb (wrap_fits _)]
 by_cases h : fits (a + b)
 ·rw [decide_eq_true h, wrap_of h]
  unfold fits at *
  simp only [lo64, hi64] at *
  by_cases h1 : a < 0 <;> by_cases h2 : b < 0 <;> by_cases h3 : a + b < 0 <;> simp only [h1, h2, h3, decide_true, decide_false] <;> first | rfl | (exfalso; omega)
 ·rw [decide_eq_false h, IntKind.wrap_i64]
  unfold fits at *
  simp only [lo64, hi64] at *
  by_cases h1 : a < 0 <;> by_cases h2 : b < 0 <;> by_cases h3 : (a + b + 9223372036854775808) % 18446744073709551616 - 9223372036854775808 < 0 <;> simp only [h1, h2, h3, decide_true, decide_false] <;> first | rfl | (exfalso; omega)
theorem sub_over {a b : Int} (ha : fits a) (hb : fits b) : decide (andI (xorI a b) (xorI a (IntKind.i64.wrap (a - b))) < 0) = !decide (fits (a - b)) := by
 rw [andI_neg (xorI_fits _ _) (xorI_fits _ _), xorI_neg ha hb, xorI_neg ha (wrap_fits _)]
 by_cases h : fits (a - b)
 ·rw [decide_eq_true h, wrap_of h]
  unfold fits at *
  simp only [lo64, hi64] at *
  by_cases h1 : a < 0 <;> by_cases h2 : b < 0 <;> by_cases h3 : a - b < 0 <;> simp only [h1, h2, h3, decide_true, decide_false] <;> first | rfl | (exfalso; omega)
 ·rw [decide_eq_false h, IntKind.wrap_i64]
  unfold fits at *
  simp only [lo64, hi64] at *
  by_cases h1 : a < 0 <;> by_cases h2 : b < 0 <;> by_cases h3 : (a - b + 9223372036854775808) % 18446744073709551616 - 9223372036854775808 < 0 <;> simp only [h1, h2, h3, decide_true, decide_false] <;> first | rfl | (exfalso; omega)
theorem mul_over {a b : Int} (ha : fits a) (hb : fits b) (h0 : a ≠ 0) :
  ((!decide (IntKind.i64.wrap ((IntKind.i64.wrap (a * b)).tdiv a) = b)) || (decide (a = -1) && decide (b = lo64))) = !decide (fits (a * b)) := by
 by_cases h : fits (a * b)
 ·rw [decide_eq_true h, wrap_of h, Int.mul_tdiv_cancel_left _ h0, wrap_of hb, decide_eq_true rfl]
  have : ¬ (a = -1 ∧ b = lo64) := fun ⟨e1, e2⟩ => by
   subst e1; subst e2
   exact absurd h (by decide)
  by_cases e1 : a = -1 <;> by_cases e2 : b = lo64 <;> simp_all
 ·rw [decide_eq_false h]
  by_cases e : a = -1 ∧ b = lo64
  ·rw [decide_eq_true e.1, decide_eq_true e.2]; simp
  ·rw [show (decide (a = -1) && decide (b = lo64)) = false by
    by_cases e1 : a = -1 <;> by_cases e2 : b = lo64 <;> simp_all]
   have hne : ¬ (IntKind.i64.wrap ((IntKind.i64.wrap (a * b)).tdiv a) = b) := fun hq => by
    have hc := wrap_fits (a * b)
    have hd : ∃ k : Int, IntKind.i64.wrap (a * b) = a * b - k * 18446744073709551616 := ⟨(a * b + 9223372036854775808) / 18446744073709551616, by rw [IntKind.wrap_i64]; omega⟩
    obtain ⟨k, hk⟩ := hd
    have hk0 : k ≠ 0 := fun e0 => by
     rw [e0] at hk
     have h2 : a * b = IntKind.i64.wrap (a * b) := by omega
     exact h (by rw [h2]; exact hc)
    generalize IntKind.i64.wrap (a * b) = c at *
    have hm := Int.tmod_add_mul_tdiv c a
    have h1 : (c.tmod a).natAbs < a.natAbs := by rw [Int.natAbs_tmod]; exact Nat.mod_lt _ (by omega)
    generalize c.tmod a = r at *
    generalize hqq : c.tdiv a = q at *
    by_cases hf : fits q
    ·rw [wrap_of hf] at hq
     subst hq
     unfold fits at *
     simp only [lo64, hi64] at *
     generalize a * q = p at *
     omega
    ·-- the quotient of the least number by -1
     have hq2 : q.natAbs ≤ c.natAbs := by rw [← hqq, Int.natAbs_tdiv]; exact Nat.div_le_self _ _
     unfold fits at *
     simp only [lo64, hi64] at *
     have : q = 9223372036854775808 := by omega
     subst this
     have hc2 : c = -9223372036854775808 := by omega
     rw [IntKind.wrap_i64] at hq
     have hb2 : b = -9223372036854775808 := by omega
     have ha2 : a = -1 := by omega
     exact e ⟨ha2, hb2⟩
   rw [decide_eq_false hne]; rfl
end Ab.Vx
