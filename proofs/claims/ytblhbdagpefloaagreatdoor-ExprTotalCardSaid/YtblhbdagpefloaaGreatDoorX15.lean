/-
 Rows of values that are made.
-/
import Derived.Test.YtblhbdagpefloaaGreatDoorX14
namespace Ab.Vx
open Go
set_option linter.unusedVariables false
set_option linter.unusedSimpArgs false
set_option maxRecDepth 100000
set_option maxHeartbeats 1000000
variable {E : Nat → Option Fn}
def rowsLoop : CCode := match c266.body with
 | .seq _ (.seq _ (.seq _ (.seq (.seq _ (.block _ (.loop _ c))) _))) => c
 | _ => .skip
def rowLoop : CCode := match rowsLoop with
 | .seq _ (.seq (.block _ (.seq _ (.seq (.seq _ (.block _ (.loop _ c))) _))) _) => c
 | _ => .skip
theorem app_val (xs : List GVal) (v : GVal) : gvalRows xs ++ [[.i .i64 v.kind, .i .i64 v.i, .s v.s, .l 4 (gvalRows v.l)]] = gvalRows (xs ++ [v]) := by simp [gvalRows_eq, row_eq]
theorem row_loop {l : List UInt8} (hnum : NumC E l) (hval : GenC E l 2) (i : Int) (out : List (List D)) {Q : Ex → St → Prop}
  (hx : ∀ tm n' vs, n' ≤ l.length → vs.length = 3 → (∀ v ∈ vs, Gd v) → look tm 4 = .ptr 0 0 → look tm 5 = .own 4 0 1 out → look tm 6 = .d (.i .i64 i) → look tm 7 = .own 5 0 4 (gvalRows vs) → Q (.exit 2) ⟨tm, [pbox l n', none, none, none, some (.tok 0 1), some (.tok 0 4)]⟩) :
  ∀ (m k n : Nat) (vs : List GVal), k + m = 3 → n ≤ l.length → vs.length = k → (∀ v ∈ vs, Gd v) →
  LX E rowLoop ⟨[4, 5, 6, 7, 8], [7], [], [], [], true⟩ 6 ⟨[(4, .ptr 0 0), (5, .own 4 0 1 out), (6, .d (.i .i64 i)), (7, .own 5 0 4 (gvalRows vs)), (8, .d (.i .i64 k))], [pbox l n, none, none, none, some (.tok 0 1), some (.tok 0 4)]⟩ Q := by
 intro m
 induction m with
 | zero =>
  intro k n vs hk hn hv hg
  have hnn : ¬ ((k : Int) < 3) := by omega
  refine lx_step ?_
  simp only [evAll, ↓reduceIte, Nat.reduceEqDiff, Nat.reduceAdd, loopQ, rowLoop, rowsLoop, c266, hnn]
  exact hx _ _ _ hn (by omega) hg rfl rfl rfl rfl
 | succ m ih =>
  intro k n vs hk hn hv hg
  have hy : (k : Int) < 3 := by omega
  have w : IntKind.i64.wrap ((k : Int) + 1) = ((k + 1 : Nat) : Int) := by rw [i64_in (by omega) (by omega)]; omega
  obtain ⟨v, n1, c1, hn1, gv⟩ := hval n hn
  have c1' : lcall E 109 [.ptr 0 0, .d (.i .i64 2)] [pbox l n] = some (v.arg, [pbox l n1]) := c1
  obtain ⟨r, n2, c2, r0, r9, hn2⟩ := hnum n1 hn1 9 (by omega)
  have r2 : roomy (vs.length + 1) 56 = true := roomy_in (by omega)
  by_cases h1 : r = 1
  ·obtain ⟨j, n3, c3, j0, j13, hn3⟩ := hnum n2 hn2 13 (by omega)
   have wj : IntKind.i64.wrap (1 + j) = 1 + j := i64_in (by omega) (by omega)
   have ih' := ih (k + 1) n3 (vs ++ [badG (1 + j)]) (by omega) hn3 (by simp [hv]) (fun x h => by
    rcases List.mem_append.1 h with h | h
    ·exact hg x h
    ·rw [List.mem_singleton.1 h]; exact gd_bad (by omega))
   have hrow : gvalRows vs ++ [[.i .i64 7, .i .i64 (1 + j), .s [], .l 4 []]] = gvalRows (vs ++ [badG (1 + j)]) := app_val vs (badG (1 + j))
   refine lx_step ?_
   simp only [evAll, ↓reduceIte, Nat.reduceEqDiff, Nat.reduceAdd, Nat.reduceLeDiff, Nat.reduceLT, loopQ, rowLoop, rowsLoop, c266, eq_true hy, w, c1', c2, eq_true h1, c3, wj, gvalRows_length, r2, hrow]
   exact ⟨_, rfl, ih'⟩
  ·have ih' := ih (k + 1) n2 (vs ++ [v]) (by omega) hn2 (by simp [hv]) (fun x h => by
    rcases List.mem_append.1 h with h | h
    ·exact hg x h
    ·rw [List.mem_singleton.1 h]; exact gen_gd gv)
   refine lx_step ?_
   simp only [evAll, ↓reduceIte, Nat.reduceEqDiff, Nat.reduceAdd, Nat.reduceLeDiff, Nat.reduceLT, loopQ, rowLoop, rowsLoop, c266, eq_true hy, w, c1', c2, h1, gvalRows_length, r2, app_val]
   exact ⟨_, rfl, ih'⟩
def Row3 (vs : List GVal) : Prop := vs.length = 3 ∧ ∀ v ∈ vs, Gd v
theorem valsRows_snoc (xs : List (List GVal)) (r : List GVal) : valsRows xs ++ [[.l 4 (gvalRows r)]] = valsRows (xs ++ [r]) := by simp [valsRows]
theorem rows_loop {l : List UInt8} (hnum : NumC E l) (hval : GenC E l 2) {Q : Ex → St → Prop}
  (hx : ∀ tm n' vs, n' ≤ l.length → vs.length = 3 → (∀ v ∈ vs, Row3 v) → look tm 4 = .ptr 0 0 → look tm 5 = .own 4 0 1 (valsRows vs) → Q (.exit 0) ⟨tm, [pbox l n', none, none, none, some (.tok 0 1)]⟩) :
  ∀ (m k n : Nat) (vs : List (List GVal)), k + m = 3 → n ≤ l.length → vs.length = k → (∀ v ∈ vs, Row3 v) →
  LX E rowsLoop ⟨[4, 5, 6], [5], [], [], [], true⟩ 5 ⟨[(4, .ptr 0 0), (5, .own 4 0 1 (valsRows vs)), (6, .d (.i .i64 k))], [pbox l n, none, none, none, some (.tok 0 1)]⟩ Q := by
 intro m
 induction m with
 | zero =>
  intro k n vs hk hn hv hg
  have hnn : ¬ ((k : Int) < 3) := by omega
  refine lx_step ?_
  simp only [evAll, ↓reduceIte, Nat.reduceEqDiff, Nat.reduceAdd, loopQ, rowsLoop, c266, hnn]
  exact hx _ _ _ hn (by omega) hg rfl rfl
 | succ m ih =>
  intro k n vs hk hn hv hg
  have hy : (k : Int) < 3 := by omega
  have w : IntKind.i64.wrap ((k : Int) + 1) = ((k + 1 : Nat) : Int) := by rw [i64_in (by omega) (by omega)]; omega
  have r2 : roomy (vs.length + 1) 24 = true := by unfold roomy; exact decide_eq_true (by omega)
  have lv : (valsRows vs).length = vs.length := by simp [valsRows]
  refine lx_step ?_
  simp only [evAll, ↓reduceIte, Nat.reduceEqDiff, Nat.reduceAdd, loopQ, rowsLoop, c266, eq_true hy]
  refine row_loop hnum hval k (valsRows vs) (fun tm n1 rs h1 h2 h3 h4 h5 h6 h7 => ?_) 3 0 n [] rfl hn rfl (by simp)
  simp only [evAll, ↓reduceIte, Nat.reduceEqDiff, Nat.reduceAdd, Nat.reduceLT, loopQ, h4, h5, h6, h7, lv, r2, w, valsRows_snoc]
  exact ⟨_, rfl, ih (k + 1) n1 (vs ++ [rs]) (by omega) h1 (by simp [hv]) (fun x h => by
    rcases List.mem_append.1 h with h | h
    ·exact hg x h
    ·rw [List.mem_singleton.1 h]; exact ⟨h2, h3⟩)⟩
theorem rows_ok (e266 : E 266 = some (.code c266)) (e108 : E 108 = some (.code c108)) {l : List UInt8} (hnum : NumC E l) (hval : GenC E l 2) :
  ∃ (vs : List (List GVal)) (ts : List (List UInt8)), lcall E 266 [.d (.l 1 (byteRow l))] [] = some (.tup [.d (.l 1 (valsRows vs)), .d (.l 1 (ts.map strRow))], []) ∧ vs.length = 3 ∧ (∀ v ∈ vs, Row3 v) ∧ ∀ s ∈ ts, s.length ≤ 1000000 := by
 suffices hh : ∃ x, lcall E 266 [.d (.l 1 (byteRow l))] [] = some x ∧ ∃ (vs : List (List GVal)) (ts : List (List UInt8)), x = (.tup [.d (.l 1 (valsRows vs)), .d (.l 1 (ts.map strRow))], []) ∧ vs.length = 3 ∧ (∀ v ∈ vs, Row3 v) ∧ ∀ s ∈ ts, s.length ≤ 1000000 by
  obtain ⟨x, h1, vs, ts, rfl, h2⟩ := hh
  exact ⟨vs, ts, h1, h2⟩
 refine call_qP e266 ?_
 simp only [evAll, ↓reduceIte, Nat.reduceEqDiff, Nat.reduceAdd, Nat.reduceLeDiff, Nat.reduceSub, Nat.reduceLT, reduceCtorEq, List.range'_one, c266, made_ok e108 l]
 refine rows_loop hnum hval (fun tm n1 vs h1 h2 h3 h4 h5 => ?_) 3 0 0 [] rfl (by omega) rfl (by simp)
 obtain ⟨r, n2, c2, r0, r4, hn2⟩ := hnum n1 h1 4 (by omega)
 have hr : r = 0 ∨ r = 1 ∨ r = 2 ∨ r = 3 := by omega
 rcases hr with h | h | h | h <;> subst h
 ·simp only [evAll, ↓reduceIte, Nat.reduceEqDiff, Nat.reduceAdd, Nat.reduceLeDiff, Nat.reduceLT, Int.reduceLE, Int.reduceToNat, h4, h5, c2]
  exact ⟨by rfl, vs, [[49, 50], [120], []], rfl, h2, h3, by decide⟩
 ·simp only [evAll, ↓reduceIte, Nat.reduceEqDiff, Nat.reduceAdd, Nat.reduceLeDiff, Nat.reduceLT, Int.reduceLE, Int.reduceToNat, h4, h5, c2]
  exact ⟨by rfl, vs, [[49, 50], [120], [57, 57, 57, 57, 57, 57, 57, 57, 57, 57, 57, 57, 57, 57, 57, 57, 57, 57]], rfl, h2, h3, by decide⟩
 ·simp only [evAll, ↓reduceIte, Nat.reduceEqDiff, Nat.reduceAdd, Nat.reduceLeDiff, Nat.reduceLT, Int.reduceLE, Int.reduceToNat, h4, h5, c2]
  exact ⟨by rfl, vs, [[49, 50], [120], [49, 50, 51, 52, 53, 54, 55, 56, 57, 48, 49, 50, 51, 52, 53, 54, 55, 56, 57]], rfl, h2, h3, by decide⟩
 ·simp only [evAll, ↓reduceIte, Nat.reduceEqDiff, Nat.reduceAdd, Nat.reduceLeDiff, Nat.reduceLT, Int.reduceLE, Int.reduceToNat, h4, h5, c2]
  exact ⟨by rfl, vs, [[49, 50], [120], [48, 48, 55]], rfl, h2, h3, by decide⟩
end Ab.Vx
