/-
 The generators' and the document's functions, together; ExprTotal.
-/
import Derived.Test.YtblhbdagpefloaaGreatDoorX15
import Derived.Test.YtblhbdagpefloaaGreatDoorX12
namespace Ab.Vx
open Go
set_option linter.unusedVariables false
set_option linter.unusedSimpArgs false
set_option maxRecDepth 100000
set_option maxHeartbeats 1000000
variable {E : Nat → Option Fn}
structure RE (E : Nat → Option Fn) : Prop where
 e108 : E 108 = some (.code c108)
 e109 : E 109 = some (.code c109)
 e115 : E 115 = some (.code c115)
 e117 : E 117 = some (.code c117)
 e120 : E 120 = some (.code c120)
 e121 : E 121 = some (.code c121)
 e123 : E 123 = some (.code c123)
 e124 : E 124 = some (.code c124)
 e131 : E 131 = some (.code c131)
 e138 : E 138 = some (.code c138)
 e267 : E 267 = some (.code c267)
 e274 : E 274 = some (.code c274)
theorem numC (R : RE E) {l : List UInt8} (hl : l.length ≤ 100) : NumC E l := fun n hn m hm => num_ok R.e123 l n (by omega) hn m hm
theorem rcmp (R : RE E) : ∀ (a b : GVal), Small a → Small b → lcall E 115 [a.arg, b.arg] [] = some (.d (.i .i64 (cmpV a b)), []) := refCmp_ok R.e115 R.e131
theorem genC (R : RE E) {l : List UInt8} (hl : l.length ≤ 100) (d : Nat) (hd : d ≤ 100) : GenC E l d :=
 gen_ok R.e109 R.e124 (fun ws v h1 h2 h3 => refIns_ok R.e117 (fun x hx => rcmp R x v (h2 x hx) h3) h1) (fun ws k h => refFind_ok R.e120 (fun v => key_ok R.e138 rfl v) h k) (numC R hl) d hd
theorem madeE (R : RE E) {l : List UInt8} (hl : l.length ≤ 100) (d : Nat) (hd : d ≤ 100) : MadeC E l d :=
 made_expr R.e267 (leaf_ok R.e274 (numC R hl) (genC R hl 2 (by omega))) (numC R hl) d hd
theorem gsm {v : GVal} (h : Gd v) : Small v := small_sz v (by have := h.size; omega)
theorem rsame (R : RE E) (a b : GVal) (ha : Gd a) (hb : Gd b) : lcall E 121 [a.arg, b.arg] [] = some (.d (.b (decide (cmpV a b = 0))), []) :=
 same_ok R.e121 (rcmp R) a b (gsm ha) (gsm hb)
theorem cmpV_self (v : GVal) : cmpV v v = 0 := by
 refine valInd (P := fun v => cmpV v v = 0) (fun v ih => ?_) v
 have hl : cmpL v.l v.l = 0 := by
  generalize v.l = l at ih
  induction l with
  | nil => simp [cmpL]
  | cons x l ihl =>
   have hx := ih x (List.mem_cons_self ..)
   have := ihl (fun y hy => ih y (List.mem_cons_of_mem _ hy))
   simp [cmpL, hx, this]
 rw [cmpV_eq]; simp [hl]
theorem rself (R : RE E) (a : GVal) (ha : Gd a) : lcall E 121 [a.arg, a.arg] [] = some (.d (.b true), []) := by
 rw [rsame R a a ha ha, cmpV_self]; rfl
theorem rmay (e110 : E 110 = some (.code c110)) (e113 : E 113 = some (.code c113)) (e115 : E 115 = some (.code c115)) (e131 : E 131 = some (.code c131)) {v : GVal} (h : Gd v) : lcall E 110 [v.arg] [] = some (.d (.b true), []) := by
 have := refMay_ok e110 (refSize_ok e113) (refCmp_ok e115 e131) v (gsm h) (by have := h.size; unfold Fit; omega)
 rw [this]
 have hm := mvV_gd h
 unfold mvV at hm
 unfold mayR
 rw [hm]
theorem rowsE (R : RE E) (e266 : E 266 = some (.code c266)) {l : List UInt8} (hl : l.length ≤ 100) : ∃ (vs : List (List GVal)) (ts : List (List UInt8)), lcall E 266 [.d (.l 1 (byteRow l))] [] = some (.tup [.d (.l 1 (valsRows vs)), .d (.l 1 (ts.map strRow))], []) ∧ vs.length = 3 ∧ (∀ v ∈ vs, Row3 v) ∧ ∀ s ∈ ts, s.length ≤ 1000000 := rows_ok e266 R.e108 (numC R hl) (genC R hl 2 (by omega))
theorem total_ok (A : XE E) (R : RE E) (e110 : E 110 = some (.code c110)) (e113 : E 113 = some (.code c113)) (e256 : E 256 = some (.code c256)) (e266 : E 266 = some (.code c266)) (hbeg : lcall E 264 [] [] = some (.d (.b true), [])) (p m : List UInt8) :
  lcall E 256 [.d (.l 1 (byteRow p)), .d (.l 1 (byteRow m))] [] = some (.d (.b true), []) := by
 have C := ev_of A
 have lp : (byteRow p).length = p.length := by simp [byteRow]
 have lm : (byteRow m).length = m.length := by simp [byteRow]
 refine call_q e256 ?_
 by_cases h1 : (100 : Int) < p.length
 ·simp only [evAll, ↓reduceIte, Nat.reduceEqDiff, Nat.reduceAdd, Nat.reduceLeDiff, reduceCtorEq, c256, hbeg, lp, eq_true h1]
 by_cases h2 : (100 : Int) < m.length
 ·simp only [evAll, ↓reduceIte, Nat.reduceEqDiff, Nat.reduceAdd, Nat.reduceLeDiff, reduceCtorEq, c256, hbeg, lp, lm, h1, eq_true h2]
 obtain ⟨vs, ts, cr, v3, vg, tl⟩ := rowsE R e266 (l := m) (by omega)
 obtain ⟨e, n', ce, _, ge⟩ := madeE R (l := p) (by omega) 5 (by omega) 0 (by omega)
 have ce' : lcall E 267 [.ptr 0 0, .d (.i .i64 5)] [some (.box [.d (.l 1 (byteRow p)), .d (.i .i64 0)])] = some (e.arg, [pbox p n']) := ce
 have hr : GdR vs ts := ⟨fun l hl => (vg l hl).2, tl⟩
 have g1 := eval_gd hr ge.gd
 have g2 := eval_gd gdR_nil ge.gd
 have k1 := Eval_ok C hr ge.gd
 have k2 : lcall E 269 [e.arg, .d (.l 1 []), .d (.l 1 [])] [] = some ((evalF [] [] e).arg, []) := Eval_ok C gdR_nil ge.gd
 simp only [evAll, ↓reduceIte, Nat.reduceEqDiff, Nat.reduceAdd, Nat.reduceLeDiff, Nat.reduceSub, Nat.reduceLT, reduceCtorEq, List.range'_one, c256, hbeg, lp, lm, h1, h2, cr, made_ok R.e108 p, ce', k1, k2, rmay e110 e113 R.e115 R.e131 g1, rmay e110 e113 R.e115 R.e131 g2, rself R _ g1]
 rfl
end Ab.Vx
