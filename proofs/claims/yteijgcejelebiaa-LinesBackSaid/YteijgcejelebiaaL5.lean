/-
  A place and its line say one another.
-/
import Derived.Test.YteijgcejelebiaaL4
namespace Ab
open Go
set_option linter.unusedVariables false
set_option linter.unusedSimpArgs false
set_option maxRecDepth 100000

def backLoop : CCode := match c242.body with
  | .seq _ (.seq _ (.seq _ (.seq _ (.seq _ (.seq _ (.seq _ (.seq (.seq _ (.block _ (.loop _ c))) _))))))) => c
  | _ => .skip

theorem back_loop {s : List UInt8} (hs : s.length ≤ 60) {l : List Int} {k a : Int} {Q : Ex → St → Prop} (hk : k ≤ s.length)
    (hQ : ∀ tm, look tm 0 = .d (.s s) → look tm 6 = .d (.l 1 (rowsI l)) → look tm 7 = .d (.i .i64 a) → Q (.exit 0) ⟨tm, []⟩) : ∀ (m i : Nat), k - i ≤ m → (i : Int) ≤ k → (∀ j (h : j < s.length), i ≤ j → (j : Int) < k → ¬ (s[j].toNat : Int) = 10) →
    LX tF backLoop ⟨[0, 5, 6, 7, 9], [], [], [], [], true⟩ 0 ⟨[(0, .d (.s s)), (5, .d (.i .i64 k)), (6, .d (.l 1 (rowsI l))), (7, .d (.i .i64 a)), (9, .d (.i .i64 i))], []⟩ Q := by
  intro m
  induction m with
  | zero =>
    intro i hm hi hno
    have hn : ¬ ((i : Int) < k) := by omega
    refine lx_step ?_
    simp only [List.getD_cons_zero, List.getD_cons_succ, Nat.reduceBEq, Bool.or_self, Bool.or_false, Bool.false_or, Bool.or_true, Bool.true_or, Bool.and_true, Bool.true_and, Bool.and_self, Bool.and_false, Bool.false_and, Bool.not_false, Bool.not_true, Bool.false_eq_true, evQ, evK, evG, evW, evX, evM, evN, evC, evR, evH, far, ↓reduceIte, Nat.reduceEqDiff, Nat.reduceAdd, Nat.reduceLeDiff, Nat.reduceSub, Nat.reduceLT, reduceCtorEq, not_true_eq_false, not_false_eq_true, Int.reduceEq, Int.reduceLT, Int.reduceLE, Int.reduceNeg, Int.toNat_natCast, true_and, backLoop, c242, hn, loopQ]
    exact hQ _ rfl rfl rfl
  | succ m ih =>
    intro i hm hi hno
    by_cases hy : (i : Int) < k
    · have la : i < s.length := by omega
      have h0 : (0 : Int) ≤ i := by omega
      have ga : s[i]? = some s[i] := List.getElem?_eq_getElem la
      have w : IntKind.i64.wrap ((i : Int) + 1) = ((i + 1 : Nat) : Int) := by rw [i64_in (by omega) (by omega)]; omega
      have hc := hno i la (by omega) hy
      refine lx_step ?_
      simp only [List.getD_cons_zero, List.getD_cons_succ, Nat.reduceBEq, Bool.or_self, Bool.or_false, Bool.false_or, Bool.or_true, Bool.true_or, Bool.and_true, Bool.true_and, Bool.and_self, Bool.and_false, Bool.false_and, Bool.not_false, Bool.not_true, Bool.false_eq_true, evQ, evK, evG, evW, evX, evM, evN, evC, evR, evH, far, ↓reduceIte, Nat.reduceEqDiff, Nat.reduceAdd, Nat.reduceLeDiff, Nat.reduceSub, Nat.reduceLT, reduceCtorEq, not_true_eq_false, not_false_eq_true, Int.reduceEq, Int.reduceLT, Int.reduceLE, Int.reduceNeg, Int.toNat_natCast, true_and, backLoop, c242, eq_true hy, loopQ, h0, ga, w, hc]
      refine ⟨_, ?_, ih (i + 1) (by omega) (by omega) (fun j hj h1 h2 => hno j hj (by omega) h2)⟩
      simp only [List.getD_cons_zero, List.getD_cons_succ, Nat.reduceBEq, Bool.or_self, Bool.or_false, Bool.false_or, Bool.or_true, Bool.true_or, Bool.false_eq_true, evG, evC, evH, evX, evN, ↓reduceIte, Nat.reduceEqDiff, Nat.reduceAdd, Nat.reduceLeDiff, Nat.reduceLT, Nat.reduceSub, reduceCtorEq]
    · refine lx_step ?_
      simp only [List.getD_cons_zero, List.getD_cons_succ, Nat.reduceBEq, Bool.or_self, Bool.or_false, Bool.false_or, Bool.or_true, Bool.true_or, Bool.and_true, Bool.true_and, Bool.and_self, Bool.and_false, Bool.false_and, Bool.not_false, Bool.not_true, Bool.false_eq_true, evQ, evK, evG, evW, evX, evM, evN, evC, evR, evH, far, ↓reduceIte, Nat.reduceEqDiff, Nat.reduceAdd, Nat.reduceLeDiff, Nat.reduceSub, Nat.reduceLT, reduceCtorEq, not_true_eq_false, not_false_eq_true, Int.reduceEq, Int.reduceLT, Int.reduceLE, Int.reduceNeg, Int.toNat_natCast, true_and, backLoop, c242, hy, loopQ]
      exact hQ _ rfl rfl rfl

theorem u8_in {n : Nat} (h : n ≤ 255) : IntKind.i64.wrap (n : Int) = n := i64_in (by omega) (by omega)

theorem linesBack_ok (hb : lcall tF 245 [] [] = some (.d (.b true), [])) (s : List UInt8) (c : UInt8) : lcall tF 242 [.d (.s s), .d (.i .u8 c.toNat)] [] = some (.d (.b true), []) := by
  refine call_q e242 ?_
  by_cases hs : (s.length : Int) > 60
  · simp only [List.getD_cons_zero, List.getD_cons_succ, Nat.reduceBEq, Bool.or_self, Bool.or_false, Bool.false_or, Bool.or_true, Bool.true_or, Bool.and_true, Bool.true_and, Bool.and_self, Bool.and_false, Bool.false_and, Bool.not_false, Bool.not_true, Bool.false_eq_true, evQ, evK, evG, evW, evX, evM, evN, evC, evR, evH, far, ↓reduceIte, Nat.reduceEqDiff, Nat.reduceAdd, Nat.reduceLeDiff, Nat.reduceSub, Nat.reduceLT, reduceCtorEq, not_true_eq_false, not_false_eq_true, Int.reduceEq, Int.reduceLT, Int.reduceLE, Int.reduceNeg, Int.toNat_natCast, true_and, c242, hb, eq_true hs]
  have c1 := starts_call s (by omega)
  rw [show (0 : Int) :: endsF s 0 = startsF s from rfl] at c1
  have hk : c.toNat % (s.length + 1) ≤ s.length := by have := Nat.mod_lt c.toNat (show 0 < s.length + 1 by omega); omega
  have hlen := starts_length s
  have hsort := starts_sorted s
  have hc255 : c.toNat ≤ 255 := by have := c.toNat_lt; omega
  have w1 : IntKind.i64.wrap ((c.toNat : Nat) : Int) = (c.toNat : Int) := u8_in hc255
  have w2 : IntKind.i64.wrap ((s.length : Int) + 1) = ((s.length + 1 : Nat) : Int) := by rw [i64_in (by omega) (by omega)]; omega
  have hz : ¬ (((s.length + 1 : Nat) : Int) = 0) := by omega
  have wm : ((c.toNat : Nat) : Int).tmod ((s.length + 1 : Nat) : Int) = ((c.toNat % (s.length + 1) : Nat) : Int) := rfl
  obtain ⟨r, hr, p1, p2, p3, c2⟩ := pos_call (l := startsF s) (at_ := ((c.toNat % (s.length + 1) : Nat) : Int)) (by omega) hsort (by omega) (by omega) rfl
  have hmem : (startsF s)[r] ∈ startsF s := List.getElem_mem hr
  have hall : ∀ x ∈ startsF s, x ≤ ((c.toNat % (s.length + 1) : Nat) : Int) → x ≤ (startsF s)[r] := fun x hx hle => by
    obtain ⟨i, hi, rfl⟩ := List.mem_iff_getElem.1 hx
    rcases Nat.lt_or_ge r i with h | h
    · have := p3 i hi h; omega
    · rcases Nat.lt_or_eq_of_le h with h | h
      · have := (List.pairwise_iff_getElem.1 hsort) i r hi hr h; omega
      · subst h; omega
  have hends : ∀ j (h : j < s.length), (startsF s)[r] ≤ j → (j : Int) < ((c.toNat % (s.length + 1) : Nat) : Int) → ¬ (s[j].toNat : Int) = 10 := fun j hj h1 h2 h3 => by
    have := hall _ (mem_starts.2 (.inr ⟨j, hj, h3, rfl⟩)) (by omega)
    omega
  have hlast : (startsF s)[r] = 0 ∨ ∃ j, ∃ (h : j < s.length), (s[j].toNat : Int) = 10 ∧ (startsF s)[r] = ((j + 1 : Nat) : Int) := mem_starts.1 hmem
  have ga : (rowsI (startsF s))[r]? = some [.i .i64 (startsF s)[r]] := by rw [rowsI_get, List.getElem?_eq_getElem hr]; rfl
  have rl : (rowsI (startsF s)).length = (startsF s).length := rowsI_length _
  generalize c.toNat % (s.length + 1) = k at *
  generalize hx : (startsF s)[r] = x at *
  generalize startsF s = l at *
  have n1 : ¬ (((r + 1 : Nat) : Int) < 1) := by omega
  have n2 : ¬ (((r + 1 : Nat) : Int) > l.length) := by omega
  have n3 : ¬ ((k : Int) - x < 0) := by omega
  have w3 : IntKind.i64.wrap (((r + 1 : Nat) : Int) - 1) = (r : Int) := by rw [i64_in (by omega) (by omega)]; omega
  have w4 : IntKind.i64.wrap (x + ((k : Int) - x)) = k := by rw [i64_in (by omega) (by omega)]; omega
  have r0 : (0 : Int) ≤ (r : Nat) := by omega
  simp only [List.getD_cons_zero, List.getD_cons_succ, Nat.reduceBEq, Bool.or_self, Bool.or_false, Bool.false_or, Bool.or_true, Bool.true_or, Bool.and_true, Bool.true_and, Bool.and_self, Bool.and_false, Bool.false_and, Bool.not_false, Bool.not_true, Bool.false_eq_true, evQ, evK, evG, evW, evX, evM, evN, evC, evR, evH, far, ↓reduceIte, Nat.reduceEqDiff, Nat.reduceAdd, Nat.reduceLeDiff, Nat.reduceSub, Nat.reduceLT, reduceCtorEq, not_true_eq_false, not_false_eq_true, Int.reduceEq, Int.reduceLT, Int.reduceLE, Int.reduceNeg, Int.toNat_natCast, true_and, c242, hb, hs, c1, c2, w1, w2, hz, wm, n1, n2, n3, w3, w4, r0, ga, rl, bne_self_eq_false]
  obtain ⟨x, rfl⟩ : ∃ y : Nat, x = (y : Int) := ⟨x.toNat, by omega⟩
  refine back_loop (by omega) (by omega) (fun tm h0 h6 h7 => ?_) k x (by omega) (by omega) (fun j hj h1 h2 => hends j hj (by omega) h2)
  rcases hlast with hx0 | ⟨j, hj, h10, hxj⟩
  · simp only [List.getD_cons_zero, List.getD_cons_succ, Nat.reduceBEq, Bool.or_self, Bool.or_false, Bool.false_or, Bool.or_true, Bool.true_or, Bool.and_true, Bool.true_and, Bool.and_self, Bool.and_false, Bool.false_and, Bool.not_false, Bool.not_true, Bool.false_eq_true, evQ, evK, evG, evW, evX, evM, evN, evC, evR, evH, far, ↓reduceIte, Nat.reduceEqDiff, Nat.reduceAdd, Nat.reduceLeDiff, Nat.reduceSub, Nat.reduceLT, reduceCtorEq, not_true_eq_false, not_false_eq_true, Int.reduceEq, Int.reduceLT, Int.reduceLE, Int.reduceNeg, Int.toNat_natCast, true_and, c242, h0, h6, h7, w3, r0, ga, eq_true hx0]
  · have n4 : ¬ ((x : Int) = 0) := by omega
    have w5 : IntKind.i64.wrap ((x : Int) - 1) = (j : Int) := by rw [i64_in (by omega) (by omega)]; omega
    have j0 : (0 : Int) ≤ (j : Nat) := by omega
    have gj : s[j]? = some s[j] := List.getElem?_eq_getElem hj
    simp only [List.getD_cons_zero, List.getD_cons_succ, Nat.reduceBEq, Bool.or_self, Bool.or_false, Bool.false_or, Bool.or_true, Bool.true_or, Bool.and_true, Bool.true_and, Bool.and_self, Bool.and_false, Bool.false_and, Bool.not_false, Bool.not_true, Bool.false_eq_true, evQ, evK, evG, evW, evX, evM, evN, evC, evR, evH, far, ↓reduceIte, Nat.reduceEqDiff, Nat.reduceAdd, Nat.reduceLeDiff, Nat.reduceSub, Nat.reduceLT, reduceCtorEq, not_true_eq_false, not_false_eq_true, Int.reduceEq, Int.reduceLT, Int.reduceLE, Int.reduceNeg, Int.toNat_natCast, true_and, c242, h0, h6, h7, w3, r0, ga, n4, w5, j0, gj, eq_true h10]
end Ab
