/-
 ExprChoice: what is not chosen is no matter.
-/
import Derived.Test.YtblhbdagpefloaaGreatDoorX16
namespace Ab.Vx
open Go
set_option linter.unusedVariables false
set_option linter.unusedSimpArgs false
set_option maxRecDepth 100000
set_option maxHeartbeats 1000000
variable {E : Nat → Option Fn}
theorem gd_bool (b : Bool) : Gd (boolG b) := by
 cases b
 ·exact ⟨rfl, by decide⟩
 ·exact ⟨rfl, by decide⟩
theorem eval_if (a : Bool) {x y : Exp} (gx : Gd (evalF [] [] x)) (gy : Gd (evalF [] [] y)) : evalF [] [] (doE 12 [conE (boolG a), x, y]) = if a then evalF [] [] x else evalF [] [] y := by
 rw [evalF_eq]
 show fitG (coreG [] [] 12 zeroV 0 0 [evalF [] [] (conE (boolG a)), evalF [] [] x, evalF [] [] y]) = _
 rw [eval_con (gd_bool a)]
 have : coreG [] [] 12 zeroV 0 0 [boolG a, evalF [] [] x, evalF [] [] y] = if a then evalF [] [] x else evalF [] [] y := by
  cases a <;> rfl
 rw [this]
 cases a
 ·exact fit_of gy.size
 ·exact fit_of gx.size
theorem eval_and (a b : Bool) : evalF [] [] (doE 9 [conE (boolG a), conE (boolG b)]) = boolG (a && b) := by cases a <;> cases b <;> rfl
theorem eval_or (a b : Bool) : evalF [] [] (doE 10 [conE (boolG a), conE (boolG b)]) = boolG (a || b) := by cases a <;> cases b <;> rfl
theorem eval_not (a : Bool) : evalF [] [] (doE 11 [conE (boolG a)]) = boolG (!a) := by cases a <;> rfl
abbrev iB (b : Bool) : Int := if b then 1 else 0
abbrev rowB (n : Int) : List D := [.i .i64 0, .i .i64 2, .i .i64 n, .s [], .l 4 [], .i .i64 0, .i .i64 0, .l 8 []]
abbrev rowX (e : Exp) : List D := [.i .i64 e.op, .i .i64 e.v.kind, .i .i64 e.v.i, .s e.v.s, .l 4 (gvalRows e.v.l), .i .i64 e.occ, .i .i64 e.attr, .l 8 (e.args.map Exp.row)]
abbrev cellB (n : Int) : V := .agg [.d (.i .i64 0), .d (.i .i64 2), .d (.i .i64 n), .d (.s []), .d (.l 4 []), .d (.i .i64 0), .d (.i .i64 0), .d (.l 8 [])]
abbrev cellL (op : Int) (l : List (List D)) : V := .agg [.d (.i .i64 op), .d (.i .i64 0), .d (.i .i64 0), .d (.s []), .d (.l 4 []), .d (.i .i64 0), .d (.i .i64 0), .d (.l 8 l)]
abbrev argB (n : Int) : V := .agg [.d (.i .i64 2), .d (.i .i64 n), .d (.s []), .d (.l 4 [])]
theorem gd_do {op : Int} {l : List Exp} (h : op ≠ 0) (hl : l.length ≤ 15) (hg : ∀ x ∈ l, GdE x) : GdE (doE op l) := .mk (fun e => absurd e h) hg hl
theorem rw3a (a b : Bool) (e : Exp) : [conE (boolG a), conE (boolG b), e].map Exp.row = [rowB (iB a), rowB (iB b), rowX e] := by
 rw [List.map_cons, List.map_cons, List.map_singleton, exp_row e]; rfl
theorem rw3b (a b : Bool) (e : Exp) : [conE (boolG a), e, conE (boolG b)].map Exp.row = [rowB (iB a), rowX e, rowB (iB b)] := by
 rw [List.map_cons, List.map_cons, List.map_singleton, exp_row e]; rfl
theorem cell3a' (a b : Bool) (e : Exp) : (doE 12 [conE (boolG a), conE (boolG b), e]).arg = cellL 12 [rowB (iB a), rowB (iB b), rowX e] := by
 show cellL 12 ([conE (boolG a), conE (boolG b), e].map Exp.row) = _
 rw [rw3a]
theorem cell3b' (a b : Bool) (e : Exp) : (doE 12 [conE (boolG a), e, conE (boolG b)]).arg = cellL 12 [rowB (iB a), rowX e, rowB (iB b)] := by
 show cellL 12 ([conE (boolG a), e, conE (boolG b)].map Exp.row) = _
 rw [rw3b]
theorem cell3a (a b : Bool) (e : Exp) : some ((doE 12 [conE (boolG a), conE (boolG b), e]).arg, ([] : List (Option Obj))) = some (cellL 12 [rowB (iB a), rowB (iB b), rowX e], []) := by rw [cell3a']
theorem cell3b (a b : Bool) (e : Exp) : some ((doE 12 [conE (boolG a), e, conE (boolG b)]).arg, ([] : List (Option Obj))) = some (cellL 12 [rowB (iB a), rowX e, rowB (iB b)], []) := by rw [cell3b']
theorem choice_law (A : XE E) (R : RE E) (e263 : E 263 = some (.code c263)) (e271 : E 271 = some (.code c271)) (e272 : E 272 = some (.code c272)) (e273 : E 273 = some (.code c273)) (hbeg : lcall E 264 [] [] = some (.d (.b true), [])) (a b : Bool) (p : List UInt8) :
  lcall E 263 [.d (.b a), .d (.b b), .d (.l 1 (byteRow p))] [] = some (.d (.b true), []) := by
 have C := ev_of A
 have lp : (byteRow p).length = p.length := by simp [byteRow]
 by_cases h1 : (60 : Int) < p.length
 ·refine call_q e263 ?_
  simp only [evAll, ↓reduceIte, Nat.reduceEqDiff, Nat.reduceAdd, Nat.reduceLeDiff, reduceCtorEq, c263, hbeg, lp, eq_true h1]
 obtain ⟨e, n', ce, _, ge⟩ := madeE R (l := p) (by omega) 3 (by omega) 0 (by omega)
 have ce' : lcall E 267 [.ptr 0 0, .d (.i .i64 3)] [some (.box [.d (.l 1 (byteRow p)), .d (.i .i64 0)])] = some (e.arg, [pbox p n']) := ce
 have gt : ∀ b, GdE (conE (boolG b)) := fun b => gdE_con (gd_bool b)
 have gv := eval_gd gdR_nil ge.gd
 have gb : ∀ b, Gd (evalF [] [] (conE (boolG b))) := fun b => by rw [eval_con (gd_bool b)]; exact gd_bool b
 have k1 : lcall E 273 [.d (.b a)] [] = some (cellB (iB a), []) := truthE_ok e271 e273 a
 have k2 : lcall E 273 [.d (.b b)] [] = some (cellB (iB b), []) := truthE_ok e271 e273 b
 have d1 : lcall E 272 [.d (.i .i64 12), .d (.l 8 [rowB (iB a), rowB (iB b), rowX e])] [] = some (cellL 12 [rowB (iB a), rowB (iB b), rowX e], []) := by
  have := do_ok e272 12 [conE (boolG a), conE (boolG b), e]
  rw [rw3a] at this
  rw [this]; exact cell3a a b e
 have d2 : lcall E 272 [.d (.i .i64 12), .d (.l 8 [rowB (iB a), rowX e, rowB (iB b)])] [] = some (cellL 12 [rowB (iB a), rowX e, rowB (iB b)], []) := by
  have := do_ok e272 12 [conE (boolG a), e, conE (boolG b)]
  rw [rw3b] at this
  rw [this]; exact cell3b a b e
 have d3 : lcall E 272 [.d (.i .i64 9), .d (.l 8 [rowB (iB a), rowB (iB b)])] [] = some (cellL 9 [rowB (iB a), rowB (iB b)], []) := do_ok e272 9 [conE (boolG a), conE (boolG b)]
 have d4 : lcall E 272 [.d (.i .i64 10), .d (.l 8 [rowB (iB a), rowB (iB b)])] [] = some (cellL 10 [rowB (iB a), rowB (iB b)], []) := do_ok e272 10 [conE (boolG a), conE (boolG b)]
 have d5 : lcall E 272 [.d (.i .i64 11), .d (.l 8 [rowB (iB a)])] [] = some (cellL 11 [rowB (iB a)], []) := do_ok e272 11 [conE (boolG a)]
 have v1 := Eval_ok C gdR_nil (e := doE 12 [conE (boolG a), conE (boolG b), e]) (gd_do (by decide) (by simp) (by simp [gt, ge.gd]))
 have v2 := Eval_ok C gdR_nil (e := doE 12 [conE (boolG a), e, conE (boolG b)]) (gd_do (by decide) (by simp) (by simp [gt, ge.gd]))
 have v3 := Eval_ok C gdR_nil (e := doE 9 [conE (boolG a), conE (boolG b)]) (gd_do (by decide) (by simp) (by simp [gt]))
 have v4 := Eval_ok C gdR_nil (e := doE 10 [conE (boolG a), conE (boolG b)]) (gd_do (by decide) (by simp) (by simp [gt]))
 have v5 := Eval_ok C gdR_nil (e := doE 11 [conE (boolG a)]) (gd_do (by decide) (by simp) (by simp [gt]))
 rw [eval_if a (gb b) gv, eval_con (gd_bool b)] at v1
 rw [eval_if a gv (gb b), eval_con (gd_bool b)] at v2
 rw [eval_and] at v3
 rw [eval_or] at v4
 rw [eval_not] at v5
 have v1' : lcall E 269 [cellL 12 [rowB (iB a), rowB (iB b), rowX e], .d (.l 1 []), .d (.l 1 [])] [] = some ((if a then boolG b else evalF [] [] e).arg, []) := by
  rw [← cell3a' a b e]; exact v1
 have v2' : lcall E 269 [cellL 12 [rowB (iB a), rowX e, rowB (iB b)], .d (.l 1 []), .d (.l 1 [])] [] = some ((if a then evalF [] [] e else boolG b).arg, []) := by
  rw [← cell3b' a b e]; exact v2
 have v3' : lcall E 269 [cellL 9 [rowB (iB a), rowB (iB b)], .d (.l 1 []), .d (.l 1 [])] [] = some (argB (iB (a && b)), []) := v3
 have v4' : lcall E 269 [cellL 10 [rowB (iB a), rowB (iB b)], .d (.l 1 []), .d (.l 1 [])] [] = some (argB (iB (a || b)), []) := v4
 have v5' : lcall E 269 [cellL 11 [rowB (iB a)], .d (.l 1 []), .d (.l 1 [])] [] = some (argB (iB (!a)), []) := v5
 have s1 : ∀ b, lcall E 121 [argB (iB b), argB (iB b)] [] = some (.d (.b true), []) := fun b => rself R (boolG b) (gd_bool b)
 have s1 := s1 b
 have i0 : ((1 : Int) = 0) = False := by simp
 refine call_q e263 ?_
 cases a <;> cases b
 ·simp only [iB, Bool.false_eq_true, if_false, if_true, Bool.not_false, Bool.and_self, Bool.or_self] at k1 k2 d1 d2 d3 d4 d5 v1' v2' v3' v4' v5' s1
  simp only [evAll, ↓reduceIte, Nat.reduceEqDiff, Nat.reduceAdd, Nat.reduceLeDiff, Nat.reduceSub, Nat.reduceLT, reduceCtorEq, Int.reduceEq, List.range'_one, c263, hbeg, lp, h1, k1, made_ok R.e108 p, ce', d1, d2, d3, d4, d5, v1', v2', v3', v4', v5', s1, boolG, gF]
  exact ⟨by rfl, by rfl⟩
 ·simp only [iB, Bool.false_eq_true, if_false, if_true, Bool.not_false, Bool.or_true, Bool.and_true] at k1 k2 d1 d2 d3 d4 d5 v1' v2' v3' v4' v5' s1
  simp only [evAll, ↓reduceIte, Nat.reduceEqDiff, Nat.reduceAdd, Nat.reduceLeDiff, Nat.reduceSub, Nat.reduceLT, reduceCtorEq, Int.reduceEq, List.range'_one, c263, hbeg, lp, h1, k1, k2, made_ok R.e108 p, ce', d1, d2, d3, d4, d5, v1', v2', v3', v4', v5', s1, boolG, gF]
  exact ⟨by rfl, by rfl⟩
 ·simp only [iB, Bool.false_eq_true, if_false, if_true, Bool.and_false, Bool.or_false, Bool.not_true] at k1 k2 d1 d2 d3 d4 d5 v1' v2' v3' v4' v5' s1
  simp only [evAll, ↓reduceIte, Nat.reduceEqDiff, Nat.reduceAdd, Nat.reduceLeDiff, Nat.reduceSub, Nat.reduceLT, reduceCtorEq, Int.reduceEq, List.range'_one, c263, hbeg, lp, h1, k1, k2, made_ok R.e108 p, ce', d1, d2, d3, d4, d5, v1', v2', v3', v4', v5', s1, boolG, gF]
  exact ⟨by rfl, by rfl⟩
 ·simp only [iB, Bool.false_eq_true, if_false, if_true, Bool.and_self, Bool.or_self, Bool.not_true] at k1 k2 d1 d2 d3 d4 d5 v1' v2' v3' v4' v5' s1
  simp only [evAll, ↓reduceIte, Nat.reduceEqDiff, Nat.reduceAdd, Nat.reduceLeDiff, Nat.reduceSub, Nat.reduceLT, reduceCtorEq, Int.reduceEq, List.range'_one, c263, hbeg, lp, h1, k1, made_ok R.e108 p, ce', d1, d2, d3, d4, d5, v1', v2', v3', v4', v5', s1, boolG, gF]
  exact ⟨by rfl, by rfl⟩
end Ab.Vx
