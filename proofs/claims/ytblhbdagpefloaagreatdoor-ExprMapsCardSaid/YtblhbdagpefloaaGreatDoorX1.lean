/-
 What expr's small functions come to.
-/
import Derived.Test.YtblhbdagpefloaaGreatDoorX0
namespace Ab.Vx
open Go
set_option linter.unusedVariables false
set_option linter.unusedSimpArgs false
set_option maxRecDepth 100000
variable {E : Nat → Option Fn}
def badG (e : Int) : GVal := .mk 7 e [] []
def boolG (b : Bool) : GVal := .mk 2 (if b then 1 else 0) [] []
def intG (n : Int) : GVal := .mk 1 n [] []
def conE (v : GVal) : Exp := .mk 0 v 0 0 []
def doE (op : Int) (l : List Exp) : Exp := .mk op (.mk 0 0 [] []) 0 0 l
theorem gF : (∀ k i s l, GVal.kind (.mk k i s l) = k) ∧ (∀ k i s l, GVal.i (.mk k i s l) = i) ∧ (∀ k i s l, GVal.s (.mk k i s l) = s) ∧ (∀ k i s l, GVal.l (.mk k i s l) = l) ∧ gvalRows [] = [] ∧ (∀ x r, gvalRows (x :: r) = GVal.row x :: gvalRows r) := ⟨fun _ _ _ _ => rfl, fun _ _ _ _ => rfl, fun _ _ _ _ => rfl, fun _ _ _ _ => rfl, rfl, fun _ _ => rfl⟩
theorem bad_ok (A : XE E) (e : Int) : lcall E 283 [.d (.i .i64 e)] [] = some ((badG e).arg, []) := by
 refine call_q A.e283 ?_
 simp only [evAll, ↓reduceIte, Nat.reduceEqDiff, Nat.reduceAdd, Nat.reduceLeDiff, reduceCtorEq, c283]
 rfl
theorem truth_ok (A : XE E) (b : Bool) : lcall E 299 [.d (.b b)] [] = some ((boolG b).arg, []) := by
 refine call_q A.e299 ?_
 cases b
 ·simp only [evAll, ↓reduceIte, Nat.reduceEqDiff, Nat.reduceAdd, Nat.reduceLeDiff, reduceCtorEq, c299]
  rfl
 ·simp only [evAll, ↓reduceIte, Nat.reduceEqDiff, Nat.reduceAdd, Nat.reduceLeDiff, reduceCtorEq, c299]
  rfl
theorem con_ok (e271 : E 271 = some (.code c271)) (v : GVal) : lcall E 271 [v.arg] [] = some ((conE v).arg, []) := by
 refine call_q e271 ?_
 simp only [evAll, ↓reduceIte, Nat.reduceEqDiff, Nat.reduceAdd, Nat.reduceLeDiff, c271]
 rfl
theorem do_ok (e272 : E 272 = some (.code c272)) (op : Int) (l : List Exp) : lcall E 272 [.d (.i .i64 op), .d (.l 8 (l.map Exp.row))] [] = some ((doE op l).arg, []) := by
 refine call_q e272 ?_
 simp only [evAll, ↓reduceIte, Nat.reduceEqDiff, Nat.reduceAdd, Nat.reduceLeDiff, reduceCtorEq, c272]
 rfl
def kindsB : List GVal → List Int → Bool
 | _, [] => true
 | [], _ :: _ => false
 | v :: l, k :: ks => decide (v.kind = k) && kindsB l ks
def kindRows (ws : List Int) : List (List D) := ws.map fun k => [.i .i64 k]
def kindsLoop : CCode := match c297.body with
 | .seq _ (.seq (.seq _ (.block _ (.loop _ c))) _) => c
 | _ => .skip
theorem kinds_loop {l : List GVal} {ws : List Int} (hl : l.length ≤ 100000) (hw : ws.length ≤ l.length) {Q : Ex → St → Prop}
  (hno : ∀ tm hp, kindsB l ws = false → look tm 4 = .d (.b false) → Q .ret ⟨tm, hp⟩) (hyes : ∀ tm hp, kindsB l ws = true → Q (.exit 0) ⟨tm, hp⟩) : ∀ (m i : Nat), i + m = ws.length → kindsB l ws = kindsB (l.drop i) (ws.drop i) →
  LX E kindsLoop ⟨[0, 7, 8, 9], [], [], [], [], true⟩ 0 ⟨[(0, .d (.l 4 (gvalRows l))), (7, .d (.l 1 (kindRows ws))), (8, .d (.i .i64 ws.length)), (9, .d (.i .i64 i))], []⟩ Q := by
 intro m
 induction m with
 | zero =>
  intro i hi he
  have hn : ¬ ((i : Int) < (ws.length : Int)) := by omega
  rw [show ws.drop i = [] from List.drop_eq_nil_of_le (by omega)] at he
  refine lx_step ?_
  simp only [evAll, ↓reduceIte, Nat.reduceEqDiff, reduceCtorEq, loopQ, kindsLoop, c297, hn]
  exact hyes _ _ (by rw [he]; cases l.drop i <;> rfl)
 | succ m ih =>
  intro i hi he
  have hy : (i : Int) < (ws.length : Int) := by omega
  have la : i < ws.length := by omega
  have ll : i < l.length := by omega
  have h0 : (0 : Int) ≤ i := by omega
  have gw : (kindRows ws)[i]? = some [.i .i64 ws[i]] := by unfold kindRows; rw [List.getElem?_map, List.getElem?_eq_getElem la]; rfl
  have gl : (gvalRows l)[i]? = some (GVal.row l[i]) := by rw [gvalRows_get, List.getElem?_eq_getElem ll]; rfl
  have w : IntKind.i64.wrap ((i : Int) + 1) = ((i + 1 : Nat) : Int) := by rw [i64_in (by omega) (by omega)]; omega
  rw [List.drop_eq_getElem_cons la, List.drop_eq_getElem_cons ll] at he
  simp only [kindsB] at he
  generalize l[i] = x at *
  generalize ws[i] = k at *
  rw [row_eq] at gl
  refine lx_step ?_
  by_cases hx : x.kind = k
  ·rw [decide_eq_true hx, Bool.true_and] at he
   simp only [evAll, ↓reduceIte, Nat.reduceEqDiff, reduceCtorEq, loopQ, kindsLoop, c297, eq_true hy, eq_true h0, gw, gl, w, eq_true hx]
   exact ⟨_, rfl, ih (i + 1) (by omega) he⟩
  ·rw [decide_eq_false hx, Bool.false_and] at he
   simp only [evAll, ↓reduceIte, Nat.reduceEqDiff, reduceCtorEq, loopQ, kindsLoop, c297, eq_true hy, eq_true h0, gw, gl, hx]
   exact hno _ _ he rfl
theorem kinds_ok (A : XE E) {l : List GVal} {ws : List Int} (hl : l.length ≤ 100000) (hw : ws.length ≤ l.length) : lcall E 297 [.d (.l 4 (gvalRows l)), .d (.l 1 (kindRows ws))] [] = some (.d (.b (kindsB l ws)), []) := by
 have hk : (kindRows ws).length = ws.length := by simp [kindRows]
 refine call_q A.e297 ?_
 simp only [evAll, ↓reduceIte, Nat.reduceEqDiff, Nat.reduceAdd, reduceCtorEq, c297, hk]
 refine kinds_loop hl hw (fun tm hp h h4 => ?_) (fun tm hp h => ?_) ws.length 0 (by omega) (by rw [List.drop_zero, List.drop_zero])
 ·rw [h]
  simp only [evAll, h4]
 ·rw [h]
  simp only [evAll, ↓reduceIte]
end Ab.Vx
