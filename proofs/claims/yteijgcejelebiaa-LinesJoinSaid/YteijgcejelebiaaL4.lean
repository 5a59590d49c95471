/-
  A splice of nothing taken out: where lines begin behind it; rows that are the same.
-/
import Derived.Test.YteijgcejelebiaaL3
namespace Ab
open Go
set_option linter.unusedVariables false
set_option linter.unusedSimpArgs false
set_option maxRecDepth 100000

def stE (A : Int) (P : List UInt8) (p : List Int × Bool) (x : Int) : List Int × Bool := if x ≤ A then (p.1 ++ [x], p.2) else (p.1 ++ midF p.2 A P 0 ++ [x + P.length], true)
def edF (A : Int) (P : List UInt8) : List Int → List Int × Bool → List Int × Bool
  | [], p => p
  | x :: r, p => edF A P r (stE A P p x)
def editF (A : Int) (P : List UInt8) (l : List Int) : List Int := (edF A P l ([], false)).1 ++ midF (edF A P l ([], false)).2 A P 0

theorem mid_length (cm : Bool) (A : Int) {P : List UInt8} (hP : P.length ≤ 500) : (midF cm A P 0).length + (if cm = true then 500 else 0) ≤ 500 := by
  cases cm with
  | true => simp [midF]
  | false => simp only [midF, Bool.false_eq_true, if_false, List.length_map]; have := endsF_length P 0; omega

def editLoop : CCode := match c248.body with
  | .seq _ (.seq _ (.seq _ (.seq (.seq _ (.block _ (.loop _ c))) _))) => c
  | _ => .skip

theorem rowsI_app2 (a b : List Int) (n : Int) : rowsI (a ++ b) ++ [[.i .i64 n]] = rowsI (a ++ b ++ [n]) := by simp [rowsI]

set_option maxHeartbeats 1000000 in
theorem edit_loop {l : List Int} (hl : l.length ≤ 200) (hb : ∀ x ∈ l, 0 ≤ x ∧ x ≤ 100000) {P : List UInt8} (hP : P.length ≤ 500) {A : Int} (hA : 0 ≤ A) (hA2 : A ≤ 100000) {Q : Ex → St → Prop} :
    ∀ (m i : Nat) (out : List Int) (cm : Bool), i + m = l.length → (out.length ≤ i + if cm then 500 else 0) →
      (∀ tm out' cm', edF A P (l.drop i) (out, cm) = (out', cm') → (out'.length ≤ 800) → look tm 4 = .ptr 1 0 → look tm 6 = .fn 253 [] [.ptr 0 0, .ptr 2 0, .ptr 1 0] →
        Q (.exit 0) ⟨tm, [bxC A 0 P, some (.box [.own 3 0 1 (rowsI out')]), some (.box [.d (.b cm')]), some (.tok 0 1)]⟩) →
      LX tF editLoop ⟨[3, 4, 6, 10, 11, 12], [], [(4, 0)], [], [], true⟩ 4 ⟨[(3, .ptr 0 0), (4, .ptr 1 0), (6, .fn 253 [] [.ptr 0 0, .ptr 2 0, .ptr 1 0]), (10, .d (.l 1 (rowsI l))), (11, .d (.i .i64 l.length)), (12, .d (.i .i64 i))],
        [bxC A 0 P, some (.box [.own 3 0 1 (rowsI out)]), some (.box [.d (.b cm)]), some (.tok 0 1)]⟩ Q := by
  intro m
  induction m with
  | zero =>
    intro i out cm hi ho hQ
    have hn : ¬ ((i : Int) < l.length) := by omega
    have ho2 : out.length ≤ 800 := by cases cm <;> simp at ho <;> omega
    rw [List.drop_eq_nil_of_le (by omega)] at hQ
    refine lx_step ?_
    simp only [List.getD_cons_zero, List.getD_cons_succ, Nat.reduceBEq, Bool.or_self, Bool.or_false, Bool.false_or, Bool.or_true, Bool.true_or, Bool.and_true, Bool.true_and, Bool.and_self, Bool.and_false, Bool.false_and, Bool.not_false, Bool.not_true, Bool.false_eq_true, evQ, evK, evG, evW, evX, evM, evN, evC, evR, evH, far, ↓reduceIte, Nat.reduceEqDiff, Nat.reduceAdd, Nat.reduceLeDiff, Nat.reduceSub, Nat.reduceLT, reduceCtorEq, not_true_eq_false, not_false_eq_true, Int.reduceEq, Int.reduceLT, Int.reduceLE, Int.reduceNeg, Int.toNat_natCast, true_and, editLoop, c248, hn, loopQ]
    exact hQ _ out cm rfl ho2 rfl rfl
  | succ m ih =>
    intro i out cm hi ho hQ
    have hy : (i : Int) < l.length := by omega
    have la : i < l.length := by omega
    have h0 : (0 : Int) ≤ i := by omega
    have ga : (rowsI l)[i]? = some [.i .i64 l[i]] := by rw [rowsI_get, List.getElem?_eq_getElem la]; rfl
    have w : IntKind.i64.wrap ((i : Int) + 1) = ((i + 1 : Nat) : Int) := by rw [i64_in (by omega) (by omega)]; omega
    obtain ⟨b1, b2⟩ := hb _ (List.getElem_mem la)
    rw [List.drop_eq_getElem_cons la] at hQ
    simp only [edF] at hQ
    generalize l[i] = x at *
    refine lx_step ?_
    by_cases hc : x ≤ A
    · have hst : stE A P (out, cm) x = (out ++ [x], cm) := by simp only [stE, if_pos hc]
      rw [hst] at hQ
      have r8 : roomy (out.length + 1) 8 = true := roomy8 (by cases cm <;> simp at ho <;> omega)
      simp only [List.getD_cons_zero, List.getD_cons_succ, Nat.reduceBEq, Bool.or_self, Bool.or_false, Bool.false_or, Bool.or_true, Bool.true_or, Bool.and_true, Bool.true_and, Bool.and_self, Bool.and_false, Bool.false_and, Bool.not_false, Bool.not_true, Bool.false_eq_true, evQ, evK, evG, evW, evX, evM, evN, evC, evR, evH, far, ↓reduceIte, Nat.reduceEqDiff, Nat.reduceAdd, Nat.reduceLeDiff, Nat.reduceSub, Nat.reduceLT, reduceCtorEq, not_true_eq_false, not_false_eq_true, Int.reduceEq, Int.reduceLT, Int.reduceLE, Int.reduceNeg, Int.toNat_natCast, true_and, editLoop, c248, eq_true hy, loopQ, h0, ga, w, eq_true hc, rowsI_length, r8, rowsI_snoc]
      refine ⟨_, ?_, ih (i + 1) (out ++ [x]) cm (by omega) (by cases cm <;> simp at ho ⊢ <;> omega) hQ⟩
      simp only [List.getD_cons_zero, List.getD_cons_succ, Nat.reduceBEq, Bool.or_self, Bool.or_false, Bool.false_or, Bool.or_true, Bool.true_or, Bool.false_eq_true, evG, evC, evH, evX, evN, ↓reduceIte, Nat.reduceEqDiff, Nat.reduceAdd, Nat.reduceLeDiff, Nat.reduceLT, Nat.reduceSub, reduceCtorEq]
    · have hst : stE A P (out, cm) x = (out ++ midF cm A P 0 ++ [x + P.length], true) := by simp only [stE, if_neg hc]
      rw [hst] at hQ
      have hgt : x > A := by omega
      have wA : IntKind.i64.wrap (A + 0) = A := by rw [Int.add_zero]; exact i64_in (by omega) (by omega)
      have wx : IntKind.i64.wrap (x + (P.length : Int)) = x + P.length := i64_in (by omega) (by omega)
      have wz : IntKind.i64.wrap (x + (P.length : Int) - 0) = x + P.length := by rw [Int.sub_zero]; exact i64_in (by omega) (by omega)
      have ml := mid_length cm A hP
      have hlen : (out ++ midF cm A P 0).length ≤ i + 500 := by rw [List.length_append]; omega
      have r8 : roomy ((out ++ midF cm A P 0).length + 1) 8 = true := roomy8 (by omega)
      have c1 : lcall tF 253 [.ptr 0 0, .ptr 1 0, .ptr 2 0] [bxC A 0 P, some (.box [.d (.b cm)]), some (.box [.own 3 0 1 (rowsI out)]), some (.tok 0 1)] = some (.tup [], [bxC A 0 P, some (.box [.d (.b true)]), some (.box [.own 3 1 1 (rowsI (out ++ midF cm A P 0))]), some (.tok 1 1)]) := by
        cases cm
        · exact edit1_F hP hA hA2 out (by simp at ho; omega)
        · exact edit1_T hP hA hA2 out (by simp at ho; omega)
      simp only [List.getD_cons_zero, List.getD_cons_succ, Nat.reduceBEq, Bool.or_self, Bool.or_false, Bool.false_or, Bool.or_true, Bool.true_or, Bool.and_true, Bool.true_and, Bool.and_self, Bool.and_false, Bool.false_and, Bool.not_false, Bool.not_true, Bool.false_eq_true, evQ, evK, evG, evW, evX, evM, evN, evC, evR, evH, far, ↓reduceIte, Nat.reduceEqDiff, Nat.reduceAdd, Nat.reduceLeDiff, Nat.reduceSub, Nat.reduceLT, reduceCtorEq, not_true_eq_false, not_false_eq_true, Int.reduceEq, Int.reduceLT, Int.reduceLE, Int.reduceNeg, Int.toNat_natCast, true_and, editLoop, c248, eq_true hy, loopQ, h0, ga, w, hc, eq_true hgt, rowsI_length, r8, rowsI_app2, c1, wA, wx, wz]
      refine ⟨_, ?_, ih (i + 1) (out ++ midF cm A P 0 ++ [x + P.length]) true (by omega) (by rw [List.length_append]; simp only [List.length_cons, List.length_nil, if_true]; omega) hQ⟩
      simp only [List.getD_cons_zero, List.getD_cons_succ, Nat.reduceBEq, Bool.or_self, Bool.or_false, Bool.false_or, Bool.or_true, Bool.true_or, Bool.false_eq_true, evG, evC, evH, evX, evN, ↓reduceIte, Nat.reduceEqDiff, Nat.reduceAdd, Nat.reduceLeDiff, Nat.reduceLT, Nat.reduceSub, reduceCtorEq]

theorem edit_call {l : List Int} (hl : l.length ≤ 200) (hb : ∀ x ∈ l, 0 ≤ x ∧ x ≤ 100000) {P : List UInt8} (hP : P.length ≤ 500) {A : Int} (hA : 0 ≤ A) (hA2 : A ≤ 100000) :
    lcall tF 248 [.d (.l 1 (rowsI l)), .agg [.d (.i .i64 A), .d (.i .i64 0), .d (.s P)]] [] = some (.d (.l 1 (rowsI (editF A P l))), []) := by
  refine call_q e248 ?_
  simp only [List.getD_cons_zero, List.getD_cons_succ, Nat.reduceBEq, Bool.or_self, Bool.or_false, Bool.false_or, Bool.or_true, Bool.true_or, Bool.and_true, Bool.true_and, Bool.and_self, Bool.and_false, Bool.false_and, Bool.not_false, Bool.not_true, Bool.false_eq_true, evQ, evK, evG, evW, evX, evM, evN, evC, evR, evH, far, ↓reduceIte, Nat.reduceEqDiff, Nat.reduceAdd, Nat.reduceLeDiff, Nat.reduceSub, Nat.reduceLT, reduceCtorEq, not_true_eq_false, not_false_eq_true, Int.reduceEq, Int.reduceLT, Int.reduceLE, Int.reduceNeg, Int.toNat_natCast, true_and, c248, rowsI_length]
  have hrows : ([] : List (List D)) = rowsI [] := rfl
  rw [hrows]
  refine edit_loop hl hb hP hA hA2 l.length 0 [] false (by omega) (by simp) (fun tm out' cm' he ho h4 h6 => ?_)
  have hf : editF A P l = out' ++ midF cm' A P 0 := by
    rw [List.drop_zero] at he
    simp only [editF, he]
  have c1 : lcall tF 253 [.ptr 0 0, .ptr 1 0, .ptr 2 0] [bxC A 0 P, some (.box [.d (.b cm')]), some (.box [.own 3 0 1 (rowsI out')]), some (.tok 0 1)] = some (.tup [], [bxC A 0 P, some (.box [.d (.b true)]), some (.box [.own 3 1 1 (rowsI (out' ++ midF cm' A P 0))]), some (.tok 1 1)]) := by
    cases cm'
    · exact edit1_F hP hA hA2 out' (by omega)
    · exact edit1_T hP hA hA2 out' (by omega)
  rw [hf]
  simp only [List.getD_cons_zero, List.getD_cons_succ, Nat.reduceBEq, Bool.or_self, Bool.or_false, Bool.false_or, Bool.or_true, Bool.true_or, Bool.and_true, Bool.true_and, Bool.and_self, Bool.and_false, Bool.false_and, Bool.not_false, Bool.not_true, Bool.false_eq_true, evQ, evK, evG, evW, evX, evM, evN, evC, evR, evH, far, ↓reduceIte, Nat.reduceEqDiff, Nat.reduceAdd, Nat.reduceLeDiff, Nat.reduceSub, Nat.reduceLT, reduceCtorEq, not_true_eq_false, not_false_eq_true, Int.reduceEq, Int.reduceLT, Int.reduceLE, Int.reduceNeg, Int.toNat_natCast, true_and, c248, h4, h6, c1]

def sameLoop : CCode := match c249.body with
  | .seq _ (.seq _ (.seq (.seq _ (.block _ (.loop _ c))) _)) => c
  | _ => .skip

theorem same_loop {l : List Int} (hl : l.length ≤ 1000) {Q : Ex → St → Prop} (hQ : ∀ tm, Q (.exit 0) ⟨tm, []⟩) : ∀ (m i : Nat), i + m = l.length →
    LX tF sameLoop ⟨[0, 1, 5], [], [], [], [], true⟩ 0 ⟨[(0, .d (.l 1 (rowsI l))), (1, .d (.l 1 (rowsI l))), (5, .d (.i .i64 i))], []⟩ Q := by
  intro m
  induction m with
  | zero =>
    intro i hi
    have hn : ¬ ((i : Int) < l.length) := by omega
    refine lx_step ?_
    simp only [List.getD_cons_zero, List.getD_cons_succ, Nat.reduceBEq, Bool.or_self, Bool.or_false, Bool.false_or, Bool.or_true, Bool.true_or, Bool.and_true, Bool.true_and, Bool.and_self, Bool.and_false, Bool.false_and, Bool.not_false, Bool.not_true, Bool.false_eq_true, evQ, evK, evG, evW, evX, evM, evN, evC, evR, evH, far, ↓reduceIte, Nat.reduceEqDiff, Nat.reduceAdd, Nat.reduceLeDiff, Nat.reduceSub, Nat.reduceLT, reduceCtorEq, not_true_eq_false, not_false_eq_true, Int.reduceEq, Int.reduceLT, Int.reduceLE, Int.reduceNeg, Int.toNat_natCast, true_and, sameLoop, c249, hn, loopQ, rowsI_length]
    exact hQ _
  | succ m ih =>
    intro i hi
    have hy : (i : Int) < l.length := by omega
    have la : i < l.length := by omega
    have h0 : (0 : Int) ≤ i := by omega
    have ga : (rowsI l)[i]? = some [.i .i64 l[i]] := by rw [rowsI_get, List.getElem?_eq_getElem la]; rfl
    have w : IntKind.i64.wrap ((i : Int) + 1) = ((i + 1 : Nat) : Int) := by rw [i64_in (by omega) (by omega)]; omega
    generalize l[i] = x at *
    refine lx_step ?_
    simp only [List.getD_cons_zero, List.getD_cons_succ, Nat.reduceBEq, Bool.or_self, Bool.or_false, Bool.false_or, Bool.or_true, Bool.true_or, Bool.and_true, Bool.true_and, Bool.and_self, Bool.and_false, Bool.false_and, Bool.not_false, Bool.not_true, Bool.false_eq_true, evQ, evK, evG, evW, evX, evM, evN, evC, evR, evH, far, ↓reduceIte, Nat.reduceEqDiff, Nat.reduceAdd, Nat.reduceLeDiff, Nat.reduceSub, Nat.reduceLT, reduceCtorEq, not_true_eq_false, not_false_eq_true, Int.reduceEq, Int.reduceLT, Int.reduceLE, Int.reduceNeg, Int.toNat_natCast, true_and, sameLoop, c249, eq_true hy, loopQ, rowsI_length, h0, ga, w, bne_self_eq_false]
    refine ⟨by rfl, ?_⟩
    refine ⟨_, ?_, ih (i + 1) (by omega)⟩
    simp only [List.getD_cons_zero, List.getD_cons_succ, Nat.reduceBEq, Bool.or_self, Bool.or_false, Bool.false_or, Bool.or_true, Bool.true_or, Bool.false_eq_true, evG, evC, evH, evX, evN, ↓reduceIte, Nat.reduceEqDiff, Nat.reduceAdd, Nat.reduceLeDiff, Nat.reduceLT, Nat.reduceSub, reduceCtorEq]

theorem same_call {l : List Int} (hl : l.length ≤ 1000) : lcall tF 249 [.d (.l 1 (rowsI l)), .d (.l 1 (rowsI l))] [] = some (.d (.b true), []) := by
  refine call_q e249 ?_
  simp only [List.getD_cons_zero, List.getD_cons_succ, Nat.reduceBEq, Bool.or_self, Bool.or_false, Bool.false_or, Bool.or_true, Bool.true_or, Bool.and_true, Bool.true_and, Bool.and_self, Bool.and_false, Bool.false_and, Bool.not_false, Bool.not_true, Bool.false_eq_true, evQ, evK, evG, evW, evX, evM, evN, evC, evR, evH, far, ↓reduceIte, Nat.reduceEqDiff, Nat.reduceAdd, Nat.reduceLeDiff, Nat.reduceSub, Nat.reduceLT, reduceCtorEq, not_true_eq_false, not_false_eq_true, Int.reduceEq, Int.reduceLT, Int.reduceLE, Int.reduceNeg, Int.toNat_natCast, true_and, c249, rowsI_length, bne_self_eq_false]
  refine same_loop hl (fun tm => ?_) l.length 0 (by omega)
  simp only [List.getD_cons_zero, List.getD_cons_succ, Nat.reduceBEq, Bool.or_self, Bool.or_false, Bool.false_or, Bool.or_true, Bool.true_or, Bool.and_true, Bool.true_and, Bool.and_self, Bool.and_false, Bool.false_and, Bool.not_false, Bool.not_true, Bool.false_eq_true, evQ, evK, evG, evW, evX, evM, evN, evC, evR, evH, far, ↓reduceIte, Nat.reduceEqDiff, Nat.reduceAdd, Nat.reduceLeDiff, Nat.reduceSub, Nat.reduceLT, reduceCtorEq, not_true_eq_false, not_false_eq_true, Int.reduceEq, Int.reduceLT, Int.reduceLE, Int.reduceNeg, Int.toNat_natCast, true_and, c249]
end Ab
