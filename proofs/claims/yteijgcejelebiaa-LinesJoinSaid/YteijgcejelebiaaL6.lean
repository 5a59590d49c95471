/-
  The lines of two texts, one behind the other.
-/
import Derived.Test.YteijgcejelebiaaL5
namespace Ab
open Go
set_option linter.unusedVariables false
set_option linter.unusedSimpArgs false
set_option maxRecDepth 100000

theorem endsF_shift : ∀ (s : List UInt8) (i : Nat), endsF s i = (endsF s 0).map ((i : Int) + ·)
  | [], i => by simp [endsF]
  | c :: r, i => by
    have h1 := endsF_shift r (i + 1)
    have h2 := endsF_shift r (0 + 1)
    simp only [endsF]
    rw [h1, h2]
    split
    · simp only [List.map_cons, List.map_map, List.cons.injEq]
      refine ⟨by omega, ?_⟩
      apply List.map_congr_left; intro x _; simp only [Function.comp]; omega
    · simp only [List.map_map]
      apply List.map_congr_left; intro x _; simp only [Function.comp]; omega

theorem endsF_append : ∀ (a b : List UInt8) (i : Nat), endsF (a ++ b) i = endsF a i ++ endsF b (i + a.length)
  | [], b, i => by simp [endsF]
  | c :: r, b, i => by
    have h := endsF_append r b (i + 1)
    have e : i + 1 + r.length = i + (c :: r).length := by simp; omega
    rw [e] at h
    simp only [List.cons_append, endsF, h]
    split <;> rfl

theorem starts_append (a b : List UInt8) : startsF (a ++ b) = startsF a ++ (endsF b 0).map ((a.length : Int) + ·) := by
  simp only [startsF, endsF_append, Nat.zero_add, List.cons_append]
  rw [endsF_shift b a.length]

theorem edF_le {A : Int} {P : List UInt8} : ∀ (l : List Int) (out : List Int) (cm : Bool), (∀ x ∈ l, x ≤ A) → edF A P l (out, cm) = (out ++ l, cm)
  | [], out, cm, _ => by simp [edF]
  | x :: r, out, cm, h => by
    have hx := h x (by simp)
    rw [edF, show stE A P (out, cm) x = (out ++ [x], cm) by simp [stE, hx], edF_le r _ _ (fun y hy => h y (by simp [hy]))]
    simp

theorem edF_gtT {A : Int} {P : List UInt8} : ∀ (l : List Int) (out : List Int), (∀ x ∈ l, A < x) → edF A P l (out, true) = (out ++ l.map (· + (P.length : Int)), true)
  | [], out, _ => by simp [edF]
  | x :: r, out, h => by
    have hx : ¬ x ≤ A := by have := h x (by simp); omega
    rw [edF, show stE A P (out, true) x = (out ++ [x + P.length], true) by simp [stE, hx, midF], edF_gtT r _ (fun y hy => h y (by simp [hy]))]
    simp

theorem edit_behind (a b : List UInt8) : editF a.length b (startsF a) = startsF (a ++ b) := by
  have h : edF (a.length : Int) b (startsF a) ([], false) = (startsF a, false) := by
    rw [edF_le _ _ _ (fun x hx => (starts_bounds hx).2)]; simp
  rw [editF, h, starts_append]
  simp [midF]

theorem edit_ahead (a b : List UInt8) : editF 0 a (startsF b) = startsF (a ++ b) := by
  have h0 : ∀ x ∈ endsF b 0, (0 : Int) < x := fun x hx => by have := (endsF_gt hx).1; omega
  have hm : (endsF b 0).map (· + (a.length : Int)) = (endsF b 0).map ((a.length : Int) + ·) := by
    apply List.map_congr_left; intro x _; omega
  have ht : edF 0 a (startsF b) ([], false) = edF 0 a (endsF b 0) ([0], false) := by
    simp [startsF, edF, stE]
  rw [editF, ht, starts_append, ← hm]
  revert h0
  generalize endsF b 0 = l
  intro h0
  cases l with
  | nil => simp [edF, midF, startsF]
  | cons x r =>
    have hx : ¬ x ≤ 0 := by have := h0 x (by simp); omega
    rw [edF, show stE 0 a ([0], false) x = ([0] ++ midF false 0 a 0 ++ [x + a.length], true) by simp [stE, hx], edF_gtT r _ (fun y hy => h0 y (by simp [hy]))]
    simp [midF, startsF]

def joinLoop : CCode := match c244.body with
  | .seq _ (.seq _ (.seq _ (.seq _ (.seq _ (.seq (.seq _ (.block _ (.loop _ c))) _))))) => c
  | _ => .skip

set_option maxHeartbeats 1000000 in
theorem join_loop {a b : List UInt8} (ha : a.length ≤ 60) (hb : b.length ≤ 60) {x y : List Int} {e : List Int} (hx : x.length ≤ 61) (hy : y = 0 :: e) (hyl : y.length ≤ 61) (he : ∀ v ∈ e, 0 ≤ v ∧ v ≤ 1000) {Q : Ex → St → Prop}
    (hQ : ∀ tm, look tm 0 = .d (.s a) → look tm 1 = .d (.s b) → look tm 5 = .d (.l 1 (rowsI x)) → look tm 6 = .d (.l 1 (rowsI y)) → look tm 7 = .d (.l 1 (rowsI (x ++ e.map ((a.length : Int) + ·)))) → Q (.exit 0) ⟨tm, []⟩) :
    ∀ (m i : Nat), i + m = (x ++ e.map ((a.length : Int) + ·)).length →
    LX tF joinLoop ⟨[0, 1, 5, 6, 7, 8], [], [], [], [], true⟩ 0 ⟨[(0, .d (.s a)), (1, .d (.s b)), (5, .d (.l 1 (rowsI x))), (6, .d (.l 1 (rowsI y))), (7, .d (.l 1 (rowsI (x ++ e.map ((a.length : Int) + ·))))), (8, .d (.i .i64 i))], []⟩ Q := by
  intro m
  induction m with
  | zero =>
    intro i hi
    have hn : ¬ ((i : Int) < (x ++ e.map ((a.length : Int) + ·)).length) := by omega
    refine lx_step ?_
    simp only [List.getD_cons_zero, List.getD_cons_succ, Nat.reduceBEq, Bool.or_self, Bool.or_false, Bool.false_or, Bool.or_true, Bool.true_or, Bool.and_true, Bool.true_and, Bool.and_self, Bool.and_false, Bool.false_and, Bool.not_false, Bool.not_true, Bool.false_eq_true, evQ, evK, evG, evW, evX, evM, evN, evC, evR, evH, far, ↓reduceIte, Nat.reduceEqDiff, Nat.reduceAdd, Nat.reduceLeDiff, Nat.reduceSub, Nat.reduceLT, reduceCtorEq, not_true_eq_false, not_false_eq_true, Int.reduceEq, Int.reduceLT, Int.reduceLE, Int.reduceNeg, Int.toNat_natCast, true_and, joinLoop, c244, hn, loopQ, rowsI_length]
    exact hQ _ rfl rfl rfl rfl rfl
  | succ m ih =>
    intro i hi
    have hi2 := hi
    rw [List.length_append, List.length_map] at hi2
    have hel : e.length ≤ 60 := by rw [hy] at hyl; simp at hyl; omega
    have hlt : (i : Int) < (x ++ e.map ((a.length : Int) + ·)).length := by omega
    have la : i < (x ++ e.map ((a.length : Int) + ·)).length := by omega
    have h0 : (0 : Int) ≤ i := by omega
    have w : IntKind.i64.wrap ((i : Int) + 1) = ((i + 1 : Nat) : Int) := by rw [i64_in (by omega) (by omega)]; omega
    by_cases hc : i < x.length
    · have hc' : (i : Int) < x.length := by omega
      have hge : ¬ ((i : Int) ≥ x.length) := by omega
      have gx : (rowsI x)[i]? = some [.i .i64 x[i]] := by rw [rowsI_get, List.getElem?_eq_getElem hc]; rfl
      have gz : (rowsI (x ++ e.map ((a.length : Int) + ·)))[i]? = some [.i .i64 x[i]] := by rw [rowsI_get, List.getElem?_append_left hc, List.getElem?_eq_getElem hc]; rfl
      generalize x[i] = v at *
      refine lx_step ?_
      simp only [List.getD_cons_zero, List.getD_cons_succ, Nat.reduceBEq, Bool.or_self, Bool.or_false, Bool.false_or, Bool.or_true, Bool.true_or, Bool.and_true, Bool.true_and, Bool.and_self, Bool.and_false, Bool.false_and, Bool.not_false, Bool.not_true, Bool.false_eq_true, evQ, evK, evG, evW, evX, evM, evN, evC, evR, evH, far, ↓reduceIte, Nat.reduceEqDiff, Nat.reduceAdd, Nat.reduceLeDiff, Nat.reduceSub, Nat.reduceLT, reduceCtorEq, not_true_eq_false, not_false_eq_true, Int.reduceEq, Int.reduceLT, Int.reduceLE, Int.reduceNeg, Int.toNat_natCast, true_and, joinLoop, c244, eq_true hlt, loopQ, rowsI_length, eq_true hc', hge, gx, gz, h0, w, bne_self_eq_false]
      refine ⟨by rfl, ?_⟩
      refine ⟨_, ?_, ih (i + 1) (by omega)⟩
      simp only [List.getD_cons_zero, List.getD_cons_succ, Nat.reduceBEq, Bool.or_self, Bool.or_false, Bool.false_or, Bool.or_true, Bool.true_or, Bool.false_eq_true, evG, evC, evH, evX, evN, ↓reduceIte, Nat.reduceEqDiff, Nat.reduceAdd, Nat.reduceLeDiff, Nat.reduceLT, Nat.reduceSub, reduceCtorEq]
    · have hc' : ¬ ((i : Int) < x.length) := by omega
      have hge : (i : Int) ≥ x.length := by omega
      have hj : i - x.length < e.length := by omega
      have gy : (rowsI y)[i - x.length + 1]? = some [.i .i64 e[i - x.length]] := by rw [rowsI_get, hy, List.getElem?_cons_succ, List.getElem?_eq_getElem hj]; rfl
      have gz : (rowsI (x ++ e.map ((a.length : Int) + ·)))[i]? = some [.i .i64 ((a.length : Int) + e[i - x.length])] := by
        rw [rowsI_get, List.getElem?_append_right (by omega), List.getElem?_map, List.getElem?_eq_getElem hj]; rfl
      obtain ⟨v1, v2⟩ := he _ (List.getElem_mem hj)
      generalize e[i - x.length] = v at *
      have w1 : IntKind.i64.wrap ((i : Int) - (x.length : Int)) = ((i - x.length : Nat) : Int) := by rw [i64_in (by omega) (by omega)]; omega
      have w2 : IntKind.i64.wrap (((i - x.length : Nat) : Int) + 1) = ((i - x.length + 1 : Nat) : Int) := by rw [i64_in (by omega) (by omega)]; omega
      have w3 : IntKind.i64.wrap (v + (a.length : Int)) = (a.length : Int) + v := by rw [i64_in (by omega) (by omega)]; omega
      have j0 : (0 : Int) ≤ ((i - x.length + 1 : Nat) : Int) := by omega
      refine lx_step ?_
      simp only [List.getD_cons_zero, List.getD_cons_succ, Nat.reduceBEq, Bool.or_self, Bool.or_false, Bool.false_or, Bool.or_true, Bool.true_or, Bool.and_true, Bool.true_and, Bool.and_self, Bool.and_false, Bool.false_and, Bool.not_false, Bool.not_true, Bool.false_eq_true, evQ, evK, evG, evW, evX, evM, evN, evC, evR, evH, far, ↓reduceIte, Nat.reduceEqDiff, Nat.reduceAdd, Nat.reduceLeDiff, Nat.reduceSub, Nat.reduceLT, reduceCtorEq, not_true_eq_false, not_false_eq_true, Int.reduceEq, Int.reduceLT, Int.reduceLE, Int.reduceNeg, Int.toNat_natCast, true_and, joinLoop, c244, eq_true hlt, loopQ, rowsI_length, hc', eq_true hge, gy, gz, h0, w, w1, w2, w3, j0, bne_self_eq_false]
      refine ⟨by rfl, ?_⟩
      refine ⟨_, ?_, ih (i + 1) (by omega)⟩
      simp only [List.getD_cons_zero, List.getD_cons_succ, Nat.reduceBEq, Bool.or_self, Bool.or_false, Bool.false_or, Bool.or_true, Bool.true_or, Bool.false_eq_true, evG, evC, evH, evX, evN, ↓reduceIte, Nat.reduceEqDiff, Nat.reduceAdd, Nat.reduceLeDiff, Nat.reduceLT, Nat.reduceSub, reduceCtorEq]

theorem linesJoin_ok (hb : lcall tF 245 [] [] = some (.d (.b true), [])) (a b : List UInt8) : lcall tF 244 [.d (.s a), .d (.s b)] [] = some (.d (.b true), []) := by
  refine call_q e244 ?_
  by_cases ha : (a.length : Int) > 60
  · simp only [List.getD_cons_zero, List.getD_cons_succ, Nat.reduceBEq, Bool.or_self, Bool.or_false, Bool.false_or, Bool.or_true, Bool.true_or, Bool.and_true, Bool.true_and, Bool.and_self, Bool.and_false, Bool.false_and, Bool.not_false, Bool.not_true, Bool.false_eq_true, evQ, evK, evG, evW, evX, evM, evN, evC, evR, evH, far, ↓reduceIte, Nat.reduceEqDiff, Nat.reduceAdd, Nat.reduceLeDiff, Nat.reduceSub, Nat.reduceLT, reduceCtorEq, not_true_eq_false, not_false_eq_true, Int.reduceEq, Int.reduceLT, Int.reduceLE, Int.reduceNeg, Int.toNat_natCast, true_and, c244, hb, eq_true ha]
  by_cases hbl : (b.length : Int) > 60
  · simp only [List.getD_cons_zero, List.getD_cons_succ, Nat.reduceBEq, Bool.or_self, Bool.or_false, Bool.false_or, Bool.or_true, Bool.true_or, Bool.and_true, Bool.true_and, Bool.and_self, Bool.and_false, Bool.false_and, Bool.not_false, Bool.not_true, Bool.false_eq_true, evQ, evK, evG, evW, evX, evM, evN, evC, evR, evH, far, ↓reduceIte, Nat.reduceEqDiff, Nat.reduceAdd, Nat.reduceLeDiff, Nat.reduceSub, Nat.reduceLT, reduceCtorEq, not_true_eq_false, not_false_eq_true, Int.reduceEq, Int.reduceLT, Int.reduceLE, Int.reduceNeg, Int.toNat_natCast, true_and, c244, hb, ha, eq_true hbl]
  have c1 := starts_call a (by omega)
  have c2 := starts_call b (by omega)
  have c3 := starts_call (a ++ b) (by simp; omega)
  have hroom : a.length + b.length ≤ 4611686018427387904 := by omega
  have la := starts_length a
  have lb := starts_length b
  have hz : (0 : Int) :: endsF (a ++ b) 0 = startsF a ++ (endsF b 0).map ((a.length : Int) + ·) := starts_append a b
  rw [hz] at c3
  rw [show (0 : Int) :: endsF a 0 = startsF a from rfl] at c1
  rw [show (0 : Int) :: endsF b 0 = startsF b from rfl] at c2
  have lz : (startsF a ++ (endsF b 0).map ((a.length : Int) + ·)).length = (startsF a).length + (startsF b).length - 1 := by simp [startsF]; omega
  have hpos : 1 ≤ (startsF b).length := by simp [startsF]
  have w1 : IntKind.i64.wrap (((startsF a).length : Int) + ((startsF b).length : Int)) = (((startsF a).length + (startsF b).length : Nat) : Int) := by rw [i64_in (by omega) (by omega)]; omega
  have w2 : IntKind.i64.wrap ((((startsF a).length + (startsF b).length : Nat) : Int) - 1) = (((startsF a ++ (endsF b 0).map ((a.length : Int) + ·)).length : Nat) : Int) := by rw [i64_in (by omega) (by omega), lz]; omega
  have bnd : ∀ (s : List UInt8), s.length ≤ 60 → ∀ x ∈ startsF s, 0 ≤ x ∧ x ≤ 100000 := fun s h x hx => by have := starts_bounds hx; omega
  have d1 := edit_call (l := startsF a) (by omega) (bnd a (by omega)) (P := b) (by omega) (A := a.length) (by omega) (by omega)
  have d2 := edit_call (l := startsF b) (by omega) (bnd b (by omega)) (P := a) (by omega) (A := 0) (by omega) (by omega)
  rw [edit_behind, starts_append] at d1
  rw [edit_ahead, starts_append] at d2
  have s1 := same_call (l := startsF a ++ (endsF b 0).map ((a.length : Int) + ·)) (by omega)
  simp only [List.getD_cons_zero, List.getD_cons_succ, Nat.reduceBEq, Bool.or_self, Bool.or_false, Bool.false_or, Bool.or_true, Bool.true_or, Bool.and_true, Bool.true_and, Bool.and_self, Bool.and_false, Bool.false_and, Bool.not_false, Bool.not_true, Bool.false_eq_true, evQ, evK, evG, evW, evX, evM, evN, evC, evR, evH, far, ↓reduceIte, Nat.reduceEqDiff, Nat.reduceAdd, Nat.reduceLeDiff, Nat.reduceSub, Nat.reduceLT, reduceCtorEq, not_true_eq_false, not_false_eq_true, Int.reduceEq, Int.reduceLT, Int.reduceLE, Int.reduceNeg, Int.toNat_natCast, true_and, c244, hb, ha, hbl, c1, c2, c3, eq_true hroom, rowsI_length, w1, w2, bne_self_eq_false]
  refine join_loop (x := startsF a) (y := startsF b) (e := endsF b 0) (by omega) (by omega) (by omega) rfl (by omega) (fun v hv => by have := endsF_gt hv; omega) (fun tm h0 h1 h5 h6 h7 => ?_) _ 0 (Nat.zero_add _)
  simp only [List.getD_cons_zero, List.getD_cons_succ, Nat.reduceBEq, Bool.or_self, Bool.or_false, Bool.false_or, Bool.or_true, Bool.true_or, Bool.and_true, Bool.true_and, Bool.and_self, Bool.and_false, Bool.false_and, Bool.not_false, Bool.not_true, Bool.false_eq_true, evQ, evK, evG, evW, evX, evM, evN, evC, evR, evH, far, ↓reduceIte, Nat.reduceEqDiff, Nat.reduceAdd, Nat.reduceLeDiff, Nat.reduceSub, Nat.reduceLT, reduceCtorEq, not_true_eq_false, not_false_eq_true, Int.reduceEq, Int.reduceLT, Int.reduceLE, Int.reduceNeg, Int.toNat_natCast, true_and, c244, h0, h1, h5, h6, h7, d1, d2, s1]
end Ab
