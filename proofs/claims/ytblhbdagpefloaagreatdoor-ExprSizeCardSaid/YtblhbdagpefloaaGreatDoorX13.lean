/-
 ExprSize: what would be too great is told, and nothing else is.
-/
import Derived.Test.YtblhbdagpefloaaGreatDoorX12
namespace Ab.Vx
open Go
set_option linter.unusedVariables false
set_option linter.unusedSimpArgs false
set_option maxRecDepth 100000
set_option maxHeartbeats 2000000
variable {E : Nat → Option Fn}
def eK : Nat → Exp
 | 0 => doE 14 [conE (intG 3)]
 | k + 1 => doE 13 [eK k, eK k]
def vK (k : Nat) : GVal := if 2 ^ k + 1 ≤ 60 then .mk 4 0 [] (List.replicate (2 ^ k) (intG 3)) else badG 6
theorem szL_rep (n : Nat) : szL (List.replicate n (intG 3)) = n := by
 induction n with
 | zero => rfl
 | succ n ih =>
  have : szN (intG 3) = 1 := rfl
  simp only [List.replicate_succ, szL, ih, this]; omega
theorem eK_gd : ∀ k, GdE (eK k)
 | 0 => .mk (fun h => absurd h (by decide)) (fun x hx => by
   rcases List.mem_cons.1 hx with rfl | hx
   ·exact gdE_con (gd_int 3)
   ·cases hx) (by simp)
 | k + 1 => .mk (fun h => absurd h (by decide)) (fun x hx => by
   rcases List.mem_cons.1 hx with rfl | hx
   ·exact eK_gd k
   ·rcases List.mem_cons.1 hx with rfl | hx
    ·exact eK_gd k
    ·cases hx) (by simp)
theorem eval_eK : ∀ k, evalF [] [] (eK k) = vK k
 | 0 => by
  rw [evalF_eq]
  show fitG (coreG [] [] 14 zeroV 0 0 [evalF [] [] (conE (intG 3))]) = _
  rw [eval_con (gd_int 3)]
  rfl
 | k + 1 => by
  have ih := eval_eK k
  rw [evalF_eq]
  show fitG (coreG [] [] 13 zeroV 0 0 [evalF [] [] (eK k), evalF [] [] (eK k)]) = _
  rw [ih]
  have ht : takesF 13 = 2 := rfl
  have h1 : coreG [] [] 13 zeroV 0 0 [vK k, vK k] = restG 13 [vK k, vK k] := by
   unfold coreG
   rw [ht, if_neg (by simp), if_neg (by decide), if_neg (by decide), if_neg (by decide), if_neg (by decide)]; rfl
  rw [h1]
  unfold restG vK
  have hp : 2 ^ (k + 1) = 2 ^ k + 2 ^ k := by rw [Nat.pow_succ]; omega
  have h1p : 1 ≤ 2 ^ k := Nat.one_le_two_pow
  by_cases h : 2 ^ k + 1 ≤ 60
  ·rw [if_pos h]
   rw [show firstBad [GVal.mk 4 0 [] (List.replicate (2 ^ k) (intG 3)), GVal.mk 4 0 [] (List.replicate (2 ^ k) (intG 3))] = none from rfl]
   have hc : ofG 13 [GVal.mk 4 0 [] (List.replicate (2 ^ k) (intG 3)), GVal.mk 4 0 [] (List.replicate (2 ^ k) (intG 3))] = .mk 4 0 [] (List.replicate (2 ^ (k + 1)) (intG 3)) := by
    show catG (GVal.mk 4 0 [] (List.replicate (2 ^ k) (intG 3))) (GVal.mk 4 0 [] (List.replicate (2 ^ k) (intG 3))) = _
    unfold catG
    rw [if_neg (by simp [gF])]
    simp only [gF, List.append_nil]
    rw [List.replicate_append_replicate, hp]
   show fitG (ofG 13 _) = _
   rw [hc]
   unfold fitG
   rw [szN_eq]
   simp only [gF, List.length_nil, szL_rep]
   by_cases h2 : 2 ^ (k + 1) + 1 ≤ 60
   ·rw [if_pos h2, if_neg (by omega)]
   ·rw [if_neg h2, if_pos (by omega)]
  ·rw [if_neg h, if_neg (by omega)]
   rw [show firstBad [badG 6, badG 6] = some (badG 6) from rfl]
   exact fit_of (gd_bad (by decide)).size
def szLoop : CCode := match c259.body with
 | .seq _ (.seq _ (.seq _ (.seq _ (.seq (.seq _ (.block _ (.loop _ c))) _)))) => c
 | _ => .skip
abbrev bxK (k : Nat) : Option Obj := some (.box [.d (.i .i64 (eK k).op), .d (.i .i64 (eK k).v.kind), .d (.i .i64 (eK k).v.i), .d (.s (eK k).v.s), .d (.l 4 (gvalRows (eK k).v.l)), .d (.i .i64 (eK k).occ), .d (.i .i64 (eK k).attr), .d (.l 8 ((eK k).args.map Exp.row))])
theorem sz_loop (e272 : E 272 = some (.code c272)) {k : Nat} (hk : k ≤ 100) {Q : Ex → St → Prop} (hq : ∀ tm, look tm 3 = .ptr 1 0 → look tm 4 = .d (.i .i64 k) → Q (.exit 0) ⟨tm, [some (.tok 0 8), bxK k]⟩) : ∀ (m i : Nat), i + m = k →
  LX E szLoop ⟨[3, 4, 5], [], [], [], [(3, 4), (3, 7)], true⟩ 2 ⟨[(3, .ptr 1 0), (4, .d (.i .i64 k)), (5, .d (.i .i64 i))], [some (.tok 0 8), bxK i]⟩ Q := by
 intro m
 induction m with
 | zero =>
  intro i hi
  have hn : ¬ ((i : Int) < (k : Int)) := by omega
  obtain rfl : i = k := by omega
  refine lx_step ?_
  simp only [evAll, Nat.reduceBEq, ↓reduceIte, Nat.reduceEqDiff, Nat.reduceAdd, Nat.reduceLeDiff, Nat.reduceSub, Nat.reduceLT, reduceCtorEq, Int.reduceEq, Int.reduceLT, Int.reduceLE, Int.reduceNeg, loopQ, Int.reduceToNat, Nat.reduceMul, List.range'_one, szLoop, c259, hn]
  exact hq _ rfl rfl
 | succ m ih =>
  intro i hi
  have hy : (i : Int) < (k : Int) := by omega
  have w : IntKind.i64.wrap ((i : Int) + 1) = ((i + 1 : Nat) : Int) := by rw [i64_in (by omega) (by omega)]; omega
  have d : lcall E 272 [.d (.i .i64 13), .d (.l 8 [(eK i).row, (eK i).row])] [] = some ((eK (i + 1)).arg, []) := do_ok e272 13 [eK i, eK i]
  rw [exp_row] at d
  refine lx_step ?_
  simp only [evAll, Nat.reduceBEq, ↓reduceIte, Nat.reduceEqDiff, Nat.reduceAdd, Nat.reduceLeDiff, Nat.reduceSub, Nat.reduceLT, reduceCtorEq, Int.reduceEq, Int.reduceLT, Int.reduceLE, Int.reduceNeg, loopQ, Int.reduceToNat, Nat.reduceMul, List.range'_one, szLoop, c259, eq_true hy, d, w]
  exact ⟨_, rfl, ih (i + 1) (by omega)⟩
theorem size9_ok (A : XE E) (e259 : E 259 = some (.code c259)) (e271 : E 271 = some (.code c271)) (e272 : E 272 = some (.code c272)) (e121 : E 121 = some (.code c121)) (e115 : E 115 = some (.code c115)) (e131 : E 131 = some (.code c131)) (hbeg : lcall E 264 [] [] = some (.d (.b true), []))
  (n : Nat) (hn : n < 256) : lcall E 259 [.d (.i .u8 n)] [] = some (.d (.b true), []) := by
 have C := ev_of A
 have k3 : lcall E 271 [.agg [.d (.i .i64 1), .d (.i .i64 3), .d (.s []), .d (.l 4 [])]] [] = some (cellI 3, []) := con_ok e271 (intG 3)
 have d0 : lcall E 272 [.d (.i .i64 14), .d (.l 8 [rowI 3])] [] = some ((eK 0).arg, []) := do_ok e272 14 [conE (intG 3)]
 obtain ⟨k, hk, hk9⟩ : ∃ k, k = n % 9 ∧ k < 9 := ⟨_, rfl, Nat.mod_lt _ (by decide)⟩
 have ht : ((n : Int).tmod 9) = (k : Int) := by rw [hk, Int.tmod_eq_emod_of_nonneg (by omega)]; omega
 have w1 : IntKind.i64.wrap (k : Int) = (k : Int) := by rw [i64_in (by omega) (by omega)]
 have v : lcall E 269 [(eK k).arg, .d (.l 1 []), .d (.l 1 [])] [] = some ((vK k).arg, []) := by
  have := Eval_ok C gdR_nil (eK_gd k)
  rwa [eval_eK] at this
 have s6 : Small (badG 6) := small_sz _ (by have := sz_bad 6; omega)
 have sm : lcall E 121 [.agg [.d (.i .i64 7), .d (.i .i64 6), .d (.s []), .d (.l 4 [])], .agg [.d (.i .i64 7), .d (.i .i64 6), .d (.s []), .d (.l 4 [])]] [] = some (.d (.b true), []) := by
  have := same_ok e121 (refCmp_ok e115 e131) (badG 6) (badG 6) s6 s6
  rw [cmp_refl, decide_eq_true rfl] at this
  exact this
 have hloop := @sz_loop E e272 k (by omega)
 refine call_q e259 ?_
 simp only [evAll, Nat.reduceBEq, ↓reduceIte, Nat.reduceEqDiff, Nat.reduceAdd, Nat.reduceLeDiff, Nat.reduceSub, Nat.reduceLT, reduceCtorEq, Int.reduceEq, Int.reduceLT, Int.reduceLE, Int.reduceNeg, loopQ, Int.reduceToNat, Nat.reduceMul, List.range'_one, c259, hbeg, k3, d0, ht, w1]
 refine hloop (fun tm h3 h4 => ?_) k 0 (by omega)
 have cases9 : k = 0 ∨ k = 1 ∨ k = 2 ∨ k = 3 ∨ k = 4 ∨ k = 5 ∨ k = 6 ∨ k = 7 ∨ k = 8 := by omega
 have sh : binOp .shl (.d (.i .i64 1)) (.d (.i .i64 (k : Int))) = some (.i .i64 ((2 ^ k : Nat) : Int)) := by
  rcases cases9 with h | h | h | h | h | h | h | h | h <;> subst h <;> rfl
 have hp : 2 ^ k ≤ 256 := by
  rcases cases9 with h | h | h | h | h | h | h | h | h <;> subst h <;> decide
 clear cases9 hloop
 generalize hN : 2 ^ k = N at *
 have w2 : IntKind.i64.wrap ((N : Int) + 1) = ((N + 1 : Nat) : Int) := by rw [i64_in (by omega) (by omega)]; omega
 unfold vK at v
 rw [hN] at v
 by_cases h60 : N + 1 ≤ 60
 ·rw [if_pos h60] at v
  have hn : ¬ ((N + 1 : Nat) : Int) > 60 := by omega
  have v' : lcall E 269 [(eK k).arg, .d (.l 1 []), .d (.l 1 [])] [] = some (.agg [.d (.i .i64 4), .d (.i .i64 0), .d (.s []), .d (.l 4 (gvalRows (List.replicate N (intG 3))))], []) := v
  have hl : (gvalRows (List.replicate N (intG 3))).length = N := by rw [gvalRows_length, List.length_replicate]
  simp only [evAll, Nat.reduceBEq, ↓reduceIte, Nat.reduceEqDiff, Nat.reduceAdd, Nat.reduceLeDiff, Nat.reduceSub, Nat.reduceLT, reduceCtorEq, Int.reduceEq, Int.reduceLT, Int.reduceLE, Int.reduceNeg, loopQ, Int.reduceToNat, Nat.reduceMul, List.range'_one, c259, h3, h4, v', sh, w2, hn, hl]
  rfl
 ·rw [if_neg h60] at v
  have hy : ((N + 1 : Nat) : Int) > 60 := by omega
  have v' : lcall E 269 [(eK k).arg, .d (.l 1 []), .d (.l 1 [])] [] = some (.agg [.d (.i .i64 7), .d (.i .i64 6), .d (.s []), .d (.l 4 [])], []) := v
  simp only [evAll, Nat.reduceBEq, ↓reduceIte, Nat.reduceEqDiff, Nat.reduceAdd, Nat.reduceLeDiff, Nat.reduceSub, Nat.reduceLT, reduceCtorEq, Int.reduceEq, Int.reduceLT, Int.reduceLE, Int.reduceNeg, loopQ, Int.reduceToNat, Nat.reduceMul, List.range'_one, c259, h3, h4, v', sh, w2, eq_true hy, sm]
end Ab.Vx
