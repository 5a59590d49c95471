/-
  Where a place stands among the lines' begins: a binary search.
-/
import Derived.Test.YteijgcejelebiaaL1
namespace Ab
open Go
set_option linter.unusedVariables false
set_option linter.unusedSimpArgs false
set_option maxRecDepth 100000

theorem mem_endsF : ∀ (s : List UInt8) (i : Nat) (x : Int), x ∈ endsF s i ↔ ∃ j, ∃ (h : j < s.length), (s[j].toNat : Int) = 10 ∧ x = ((i + j + 1 : Nat) : Int)
  | [], i, x => by simp [endsF]
  | c :: r, i, x => by
    have ih := mem_endsF r (i + 1) x
    have step : (∃ j, ∃ (h : j < (c :: r).length), ((c :: r)[j].toNat : Int) = 10 ∧ x = ((i + j + 1 : Nat) : Int)) ↔ ((c.toNat : Int) = 10 ∧ x = ((i + 1 : Nat) : Int)) ∨ ∃ j, ∃ (h : j < r.length), (r[j].toNat : Int) = 10 ∧ x = ((i + 1 + j + 1 : Nat) : Int) := by
      constructor
      · rintro ⟨j, h, h1, h2⟩
        cases j with
        | zero => exact .inl ⟨h1, h2⟩
        | succ j => exact .inr ⟨j, by simpa using h, h1, by rw [h2]; congr 1; omega⟩
      · rintro (⟨h1, h2⟩ | ⟨j, h, h1, h2⟩)
        · exact ⟨0, by simp, h1, h2⟩
        · exact ⟨j + 1, by simpa using h, h1, by rw [h2]; congr 1; omega⟩
    rw [step, ← ih]
    simp only [endsF]
    by_cases hc : (c.toNat : Int) = 10
    · rw [if_pos hc]; simp [hc]
    · rw [if_neg hc]; simp [hc]

theorem endsF_gt {s : List UInt8} {i : Nat} {x : Int} (h : x ∈ endsF s i) : (i : Int) < x ∧ x ≤ ((i + s.length : Nat) : Int) := by
  obtain ⟨j, hj, _, rfl⟩ := (mem_endsF s i x).1 h
  omega

theorem endsF_sorted : ∀ (s : List UInt8) (i : Nat), (endsF s i).Pairwise (· < ·)
  | [], i => by simp [endsF]
  | c :: r, i => by
    simp only [endsF]
    split
    · exact List.pairwise_cons.2 ⟨fun x hx => by have := (endsF_gt hx).1; omega, endsF_sorted r (i + 1)⟩
    · exact endsF_sorted r (i + 1)

theorem endsF_length : ∀ (s : List UInt8) (i : Nat), (endsF s i).length ≤ s.length
  | [], i => by simp [endsF]
  | c :: r, i => by
    have := endsF_length r (i + 1)
    simp only [endsF]
    split <;> simp <;> omega

/-- lines' begins. -/
def startsF (s : List UInt8) : List Int := 0 :: endsF s 0
theorem starts_sorted (s : List UInt8) : (startsF s).Pairwise (· < ·) :=
  List.pairwise_cons.2 ⟨fun x hx => by have := (endsF_gt hx).1; omega, endsF_sorted s 0⟩
theorem starts_length (s : List UInt8) : (startsF s).length ≤ s.length + 1 := by
  have := endsF_length s 0
  simp [startsF]; omega
theorem mem_starts {s : List UInt8} {x : Int} : x ∈ startsF s ↔ x = 0 ∨ ∃ j, ∃ (h : j < s.length), (s[j].toNat : Int) = 10 ∧ x = ((j + 1 : Nat) : Int) := by
  simp only [startsF, List.mem_cons, mem_endsF, Nat.zero_add]
theorem starts_bounds {s : List UInt8} {x : Int} (h : x ∈ startsF s) : 0 ≤ x ∧ x ≤ s.length := by
  rcases mem_starts.1 h with rfl | ⟨j, hj, _, rfl⟩ <;> omega

/-! ### the search -/

theorem shr1 (m : Nat) : binOp .shr (.d (.i .u64 (m : Int))) (.d (.i .u64 1)) = some (.i .u64 ((m / 2 : Nat) : Int)) := by
  have h : ((m : Nat) : Int).fdiv 2 = ((m / 2 : Nat) : Int) := by rw [Int.fdiv_eq_ediv_of_nonneg _ (by omega)]; omega
  simp [binOp, isShift, shiftInt, IntKind.bits, h]
theorem u64_in {n : Nat} (h : n ≤ 9223372036854775807) : IntKind.u64.wrap (n : Int) = n := by
  simp only [IntKind.wrap, IntKind.bits, IntKind.signed, Bool.false_and, Bool.false_eq_true, if_false]
  omega

theorem pos1_call (l : List Int) (at_ : Int) (i : Nat) (h : i < l.length) : lcall tF 252 [.d (.i .i64 i), .d (.q [.l 1 (rowsI l)] 0), .d (.q [.i .i64 at_] 0)] [] = some (.d (.b (decide (l[i] > at_))), []) := by
  have h0 : (0 : Int) ≤ i := by omega
  have ga : (rowsI l)[i]? = some [.i .i64 l[i]] := by rw [rowsI_get, List.getElem?_eq_getElem h]; rfl
  refine call_q e252 ?_
  simp only [List.getD_cons_zero, List.getD_cons_succ, Nat.reduceBEq, Bool.or_self, Bool.or_false, Bool.false_or, Bool.or_true, Bool.true_or, Bool.and_true, Bool.true_and, Bool.and_self, Bool.and_false, Bool.false_and, Bool.not_false, Bool.not_true, Bool.false_eq_true, evQ, evK, evG, evW, evX, evM, evN, evC, evR, evH, far, ↓reduceIte, Nat.reduceEqDiff, Nat.reduceAdd, Nat.reduceLeDiff, Nat.reduceSub, Nat.reduceLT, reduceCtorEq, not_true_eq_false, not_false_eq_true, Int.reduceEq, Int.reduceLT, Int.reduceLE, Int.reduceNeg, Int.toNat_natCast, true_and, c252, h0, ga]
  rfl

def searchLoop : CCode := match c251.body with
  | .seq _ (.seq _ (.seq (.block _ (.loop _ c)) _)) => c
  | _ => .skip

theorem search_loop {l : List Int} {at_ : Int} (hl : l.length ≤ 1000) (hs : l.Pairwise (· < ·)) {Q : Ex → St → Prop}
    (hQ : ∀ tm (r : Nat), look tm 5 = .d (.i .i64 r) → r ≤ l.length → (∀ k (h : k < l.length), k < r → l[k] ≤ at_) → (∀ k (h : k < l.length), r ≤ k → at_ < l[k]) → Q (.exit 0) ⟨tm, []⟩) :
    ∀ (m i j : Nat), j - i ≤ m → i ≤ j → j ≤ l.length → (∀ k (h : k < l.length), k < i → l[k] ≤ at_) → (∀ k (h : k < l.length), j ≤ k → at_ < l[k]) →
      LX tF searchLoop ⟨[1, 5, 6], [], [], [], [], true⟩ 0 ⟨[(1, .d (.f 252 [] [.q [.l 1 (rowsI l)] 0, .q [.i .i64 at_] 0])), (5, .d (.i .i64 i)), (6, .d (.i .i64 j))], []⟩ Q := by
  intro m
  induction m with
  | zero =>
    intro i j hm hij hj h1 h2
    have e : i = j := by omega
    subst e
    refine lx_step ?_
    simp only [List.getD_cons_zero, List.getD_cons_succ, Nat.reduceBEq, Bool.or_self, Bool.or_false, Bool.false_or, Bool.or_true, Bool.true_or, Bool.and_true, Bool.true_and, Bool.and_self, Bool.and_false, Bool.false_and, Bool.not_false, Bool.not_true, Bool.false_eq_true, evQ, evK, evG, evW, evX, evM, evN, evC, evR, evH, far, ↓reduceIte, Nat.reduceEqDiff, Nat.reduceAdd, Nat.reduceLeDiff, Nat.reduceSub, Nat.reduceLT, reduceCtorEq, not_true_eq_false, not_false_eq_true, Int.reduceEq, Int.reduceLT, Int.reduceLE, Int.reduceNeg, Int.toNat_natCast, true_and, searchLoop, c251, Int.lt_irrefl, loopQ]
    exact hQ _ i rfl hj h1 h2
  | succ m ih =>
    intro i j hm hij hj h1 h2
    by_cases e : i = j
    · subst e
      refine lx_step ?_
      simp only [List.getD_cons_zero, List.getD_cons_succ, Nat.reduceBEq, Bool.or_self, Bool.or_false, Bool.false_or, Bool.or_true, Bool.true_or, Bool.and_true, Bool.true_and, Bool.and_self, Bool.and_false, Bool.false_and, Bool.not_false, Bool.not_true, Bool.false_eq_true, evQ, evK, evG, evW, evX, evM, evN, evC, evR, evH, far, ↓reduceIte, Nat.reduceEqDiff, Nat.reduceAdd, Nat.reduceLeDiff, Nat.reduceSub, Nat.reduceLT, reduceCtorEq, not_true_eq_false, not_false_eq_true, Int.reduceEq, Int.reduceLT, Int.reduceLE, Int.reduceNeg, Int.toNat_natCast, true_and, searchLoop, c251, Int.lt_irrefl, loopQ]
      exact hQ _ i rfl hj h1 h2
    · have hlt : (i : Int) < j := by omega
      have hh : (i + j) / 2 < l.length := by omega
      have w1 : IntKind.i64.wrap ((i : Int) + (j : Int)) = ((i + j : Nat) : Int) := by rw [i64_in (by omega) (by omega)]; omega
      have w2 : IntKind.u64.wrap ((i + j : Nat) : Int) = ((i + j : Nat) : Int) := u64_in (by omega)
      have w3 : IntKind.i64.wrap (((i + j) / 2 : Nat) : Int) = (((i + j) / 2 : Nat) : Int) := by rw [i64_in (by omega) (by omega)]
      have w4 : IntKind.i64.wrap ((((i + j) / 2 : Nat) : Int) + 1) = (((i + j) / 2 + 1 : Nat) : Int) := by rw [i64_in (by omega) (by omega)]; omega
      have s1 := shr1 (i + j)
      have c1 := pos1_call l at_ ((i + j) / 2) hh
      have mono : ∀ a b (ha : a < l.length) (hb : b < l.length), a < b → l[a] < l[b] := fun a b ha hb hab => (List.pairwise_iff_getElem.1 hs) a b ha hb hab
      by_cases hc : l[(i + j) / 2] > at_
      · simp only [hc, decide_true] at c1
        refine lx_step ?_
        simp only [List.getD_cons_zero, List.getD_cons_succ, Nat.reduceBEq, Bool.or_self, Bool.or_false, Bool.false_or, Bool.or_true, Bool.true_or, Bool.and_true, Bool.true_and, Bool.and_self, Bool.and_false, Bool.false_and, Bool.not_false, Bool.not_true, Bool.false_eq_true, evQ, evK, evG, evW, evX, evM, evN, evC, evR, evH, far, ↓reduceIte, Nat.reduceEqDiff, Nat.reduceAdd, Nat.reduceLeDiff, Nat.reduceSub, Nat.reduceLT, reduceCtorEq, not_true_eq_false, not_false_eq_true, Int.reduceEq, Int.reduceLT, Int.reduceLE, Int.reduceNeg, Int.toNat_natCast, true_and, searchLoop, c251, hlt, loopQ, w1, w2, w3, s1, c1, eq_true hlt]
        refine ⟨_, rfl, ih i ((i + j) / 2) (by omega) (by omega) (by omega) h1 (fun k hk h => ?_)⟩
        rcases Nat.lt_or_eq_of_le h with h | h
        · have := mono _ _ hh hk h; omega
        · subst h; exact hc
      · simp only [hc, decide_false] at c1
        refine lx_step ?_
        simp only [List.getD_cons_zero, List.getD_cons_succ, Nat.reduceBEq, Bool.or_self, Bool.or_false, Bool.false_or, Bool.or_true, Bool.true_or, Bool.and_true, Bool.true_and, Bool.and_self, Bool.and_false, Bool.false_and, Bool.not_false, Bool.not_true, Bool.false_eq_true, evQ, evK, evG, evW, evX, evM, evN, evC, evR, evH, far, ↓reduceIte, Nat.reduceEqDiff, Nat.reduceAdd, Nat.reduceLeDiff, Nat.reduceSub, Nat.reduceLT, reduceCtorEq, not_true_eq_false, not_false_eq_true, Int.reduceEq, Int.reduceLT, Int.reduceLE, Int.reduceNeg, Int.toNat_natCast, true_and, searchLoop, c251, hlt, loopQ, w1, w2, w3, w4, s1, c1, eq_true hlt]
        refine ⟨_, rfl, ih ((i + j) / 2 + 1) j (by omega) (by omega) hj (fun k hk h => ?_) h2⟩
        rcases Nat.lt_or_eq_of_le (Nat.le_of_lt_succ h) with h | h
        · have := mono _ _ hk hh h; omega
        · subst h; omega

theorem search_call {l : List Int} {at_ : Int} (hl : l.length ≤ 1000) (hs : l.Pairwise (· < ·)) : ∃ r : Nat, r ≤ l.length ∧ (∀ k (h : k < l.length), k < r → l[k] ≤ at_) ∧ (∀ k (h : k < l.length), r ≤ k → at_ < l[k]) ∧
    lcall tF 251 [.d (.i .i64 l.length), .d (.f 252 [] [.q [.l 1 (rowsI l)] 0, .q [.i .i64 at_] 0])] [] = some (.d (.i .i64 r), []) := by
  have key : ∃ x, lcall tF 251 [.d (.i .i64 l.length), .d (.f 252 [] [.q [.l 1 (rowsI l)] 0, .q [.i .i64 at_] 0])] [] = some x ∧ ∃ r : Nat, r ≤ l.length ∧ (∀ k (h : k < l.length), k < r → l[k] ≤ at_) ∧ (∀ k (h : k < l.length), r ≤ k → at_ < l[k]) ∧ x = (.d (.i .i64 r), []) := by
    refine call_qP e251 ?_
    simp only [List.getD_cons_zero, List.getD_cons_succ, Nat.reduceBEq, Bool.or_self, Bool.or_false, Bool.false_or, Bool.or_true, Bool.true_or, Bool.and_true, Bool.true_and, Bool.and_self, Bool.and_false, Bool.false_and, Bool.not_false, Bool.not_true, Bool.false_eq_true, evQ, evK, evG, evW, evX, evM, evN, evC, evR, evH, far, ↓reduceIte, Nat.reduceEqDiff, Nat.reduceAdd, Nat.reduceLeDiff, Nat.reduceSub, Nat.reduceLT, reduceCtorEq, not_true_eq_false, not_false_eq_true, Int.reduceEq, Int.reduceLT, Int.reduceLE, Int.reduceNeg, Int.toNat_natCast, true_and, c251]
    refine search_loop hl hs (fun tm r h5 h1 h2 h3 => ?_) l.length 0 l.length (by omega) (by omega) (by omega) (fun k _ h => by omega) (fun k _ h => by omega)
    simp only [List.getD_cons_zero, List.getD_cons_succ, Nat.reduceBEq, Bool.or_self, Bool.or_false, Bool.false_or, Bool.or_true, Bool.true_or, Bool.and_true, Bool.true_and, Bool.and_self, Bool.and_false, Bool.false_and, Bool.not_false, Bool.not_true, Bool.false_eq_true, evQ, evK, evG, evW, evX, evM, evN, evC, evR, evH, far, ↓reduceIte, Nat.reduceEqDiff, Nat.reduceAdd, Nat.reduceLeDiff, Nat.reduceSub, Nat.reduceLT, reduceCtorEq, not_true_eq_false, not_false_eq_true, Int.reduceEq, Int.reduceLT, Int.reduceLE, Int.reduceNeg, Int.toNat_natCast, true_and, h5]
    exact ⟨r, h1, h2, h3, rfl⟩
  obtain ⟨x, h0, r, h1, h2, h3, rfl⟩ := key
  exact ⟨r, h1, h2, h3, h0⟩

theorem pos_call {l : List Int} {at_ : Int} (hl : l.length ≤ 1000) (hs : l.Pairwise (· < ·)) (h0 : 0 ≤ at_) (h1 : at_ ≤ 100000) (hz : l.head? = some 0) : ∃ r : Nat, ∃ (hr : r < l.length), l[r] ≤ at_ ∧ 0 ≤ l[r] ∧ (∀ k (h : k < l.length), r < k → at_ < l[k]) ∧
    lcall tF 247 [.d (.l 1 (rowsI l)), .d (.i .i64 at_)] [] = some (.tup [.d (.i .i64 (r + 1 : Nat)), .d (.i .i64 (at_ - l[r]))], []) := by
  obtain ⟨r, k1, k2, k3, c1⟩ := search_call (at_ := at_) hl hs
  have hne : 0 < l.length := by cases l with | nil => simp at hz | cons => simp
  have hl0 : l[0] = 0 := by cases l with | nil => simp at hz | cons x r => simpa using hz
  have hr0 : r ≠ 0 := fun e => by subst e; have := k3 0 hne (by omega); omega
  obtain ⟨r, rfl⟩ : ∃ q, r = q + 1 := ⟨r - 1, by omega⟩
  have hr : r < l.length := by omega
  have hle := k2 r hr (by omega)
  have hnn : 0 ≤ l[r] := by
    rcases Nat.eq_zero_or_pos r with h | h
    · subst h; omega
    · have := (List.pairwise_iff_getElem.1 hs) 0 r hne hr h; omega
  have hmx : ¬ ((0 : Int) > at_) := by omega
  have hn1 : ¬ (((r + 1 : Nat) : Int) = 0) := by omega
  have w1 : IntKind.i64.wrap (((r + 1 : Nat) : Int) - 1) = (r : Int) := by rw [i64_in (by omega) (by omega)]; omega
  have hi0 : (0 : Int) ≤ (r : Nat) := by omega
  have ga : (rowsI l)[r]? = some [.i .i64 l[r]] := by rw [rowsI_get, List.getElem?_eq_getElem hr]; rfl
  have w2 : IntKind.i64.wrap (at_ - l[r]) = at_ - l[r] := i64_in (by omega) (by omega)
  refine ⟨r, hr, hle, hnn, fun k h hk => k3 k h (by omega), ?_⟩
  refine call_q e247 ?_
  simp only [List.getD_cons_zero, List.getD_cons_succ, Nat.reduceBEq, Bool.or_self, Bool.or_false, Bool.false_or, Bool.or_true, Bool.true_or, Bool.and_true, Bool.true_and, Bool.and_self, Bool.and_false, Bool.false_and, Bool.not_false, Bool.not_true, Bool.false_eq_true, evQ, evK, evG, evW, evX, evM, evN, evC, evR, evH, far, ↓reduceIte, Nat.reduceEqDiff, Nat.reduceAdd, Nat.reduceLeDiff, Nat.reduceSub, Nat.reduceLT, reduceCtorEq, not_true_eq_false, not_false_eq_true, Int.reduceEq, Int.reduceLT, Int.reduceLE, Int.reduceNeg, Int.toNat_natCast, true_and, c247, hmx, rowsI_length, c1, hn1, w1, hi0, ga, w2]
  rfl
end Ab
