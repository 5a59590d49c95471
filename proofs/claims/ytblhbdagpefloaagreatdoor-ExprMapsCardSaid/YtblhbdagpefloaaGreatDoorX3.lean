/-
 Rows of values, one behind the other.
-/
import Derived.Test.YtblhbdagpefloaaGreatDoorX2
namespace Ab.Vx
open Go
set_option linter.unusedVariables false
set_option linter.unusedSimpArgs false
set_option maxRecDepth 100000
variable {E : Nat → Option Fn}
theorem refsRows_ofDs : ∀ (xs : List (List D)), refsRows (xs.map ofDs) = []
 | [] => rfl
 | r :: rs => by simp only [List.map_cons, refsRows, refs_ofDs, refsRows_ofDs rs, List.nil_append]
theorem renRows_ofDs (f sh : Nat → Nat) : ∀ (xs : List (List D)), renRows f sh (xs.map ofDs) = xs.map ofDs
 | [] => rfl
 | r :: rs => by simp only [List.map_cons, renRows, ren_ofDs, renRows_ofDs f sh rs]
theorem settle_arr {v sz n : Nat} {rows : List (List D)} (hn : n = rows.length) (hr : ∀ r ∈ rows, r.length ≤ 20) (hl : rows.length < 3000) : settle 0 (.arr 0 v 0 n) [some (.arr v sz (rows.map ofDs))] = some (.d (.l sz rows), []) := by
 have h0 : ansIds 0 (.arr 0 v 0 n) = [0] := rfl
 have h1 : V.lend (fun i => (([some (.arr v sz (rows.map ofDs))] : List (Option Obj))[i]?).join) far (.arr 0 v 0 n) = some (.l sz rows) := by
  rw [lend_arr (n := 20) rfl hr (by omega) (by omega)]
  subst hn
  simp
 have h2 : frzA 0 (fun i => (([some (.arr v sz (rows.map ofDs))] : List (Option Obj))[i]?).join) (.arr 0 v 0 n) = some (.d (.l sz rows)) := by
  show (if 0 ≤ 0 then (match V.lend (fun i => (([some (.arr v sz (rows.map ofDs))] : List (Option Obj))[i]?).join) far (.arr 0 v 0 n) with | some d => some (V.d d) | none => none) else some (.arr 0 v 0 n)) = _
  rw [h1]; rfl
 have h3 : reach (fun i => (([some (.arr v sz (rows.map ofDs))] : List (Option Obj))[i]?).join) far [0] [] = some [0] := by
  show reach _ 4095 ([] ++ refsRows (rows.map ofDs)) ([] ++ [0]) = _
  rw [refsRows_ofDs]; rfl
 unfold settle
 simp only [h0, h2, h3]
 rfl
def goAp2 (C : CallF) (K : St → List Foot → Prop) (b d sz bytes : Nat) (r : List CO) (j : Nat) (tm : List (Nat × V)) (hp : List (Option Obj)) (es : List Foot) (id ver off len : Nat) (y : V) (ys : List (List V)) : Option Obj → Prop
 | some (.arr ver' sz' xs) => ((ver = ver' ∧ sz' = sz ∧ off + len ≤ xs.length ∧ y.other id = true ∧ roomy (len + ys.length) bytes = true) ∧
    go C K b r (j + 1) ((d, .arr id (ver + 1) 0 (len + ys.length)) :: tm) (setObjs hp (id :: iaIds y) (some (.arr (ver + 1) sz ((xs.drop off).take len ++ ys)) :: (iaIds y).map (objT hp))) (⟨id :: iaIds y, true, b + j, 0⟩ :: es))
 | _ => False
theorem evZ2 :
  (∀ (C : CallF) (K : St → List Foot → Prop) (b d sz bytes : Nat) (r : List CO) (j : Nat) (tm : List (Nat × V)) (hp : List (Option Obj)) (es : List Foot) (id ver off len : Nat) (y : V) (ys : List (List V)), goAp C K b d sz bytes r j tm hp es (.arr id ver off len) y (some ys) = goAp2 C K b d sz bytes r j tm hp es id ver off len y ys (objT hp id)) ∧
  (∀ (C : CallF) (K : St → List Foot → Prop) (b d sz bytes : Nat) (r : List CO) (j : Nat) (tm : List (Nat × V)) (hp : List (Option Obj)) (es : List Foot) (id ver off len : Nat) (y : V) (ys : List (List V)) (ver' sz' : Nat) (xs : List (List V)), goAp2 C K b d sz bytes r j tm hp es id ver off len y ys (some (.arr ver' sz' xs)) = ((ver = ver' ∧ sz' = sz ∧ off + len ≤ xs.length ∧ y.other id = true ∧ roomy (len + ys.length) bytes = true) ∧
    go C K b r (j + 1) ((d, .arr id (ver + 1) 0 (len + ys.length)) :: tm) (setObjs hp (id :: iaIds y) (some (.arr (ver + 1) sz ((xs.drop off).take len ++ ys)) :: (iaIds y).map (objT hp))) (⟨id :: iaIds y, true, b + j, 0⟩ :: es))) ∧
  (∀ (i : Nat) (x : D), V.other i (.d x) = true) := by
 refine ⟨fun C K b d sz bytes r j tm hp es id ver off len y ys => ?_, ?_, ?_⟩
 ·simp only [goAp]
  cases objT hp id with
  | none => rfl
  | some o => cases o <;> rfl
 ·intros; rfl
 ·intros; rfl
theorem evZ :
  (∀ (x : A), Cop.nmk (.capn x) = 0) ∧ (∀ (sz b : Nat) (z : List D) (x y : A), Cop.nmk (.apz sz b z x y) = 1) ∧ (∀ (sz b : Nat) (x y : A), Cop.nmk (.apa sz b x y) = 1) ∧ (∀ (k r : Nat) (ars : List A), Cop.nmk (.callr k ars r) = r) ∧ (∀ (s : Nat), iaIds (.nil s) = []) ∧
  (∀ C K b r j tm hp es (d p sz bytes : Nat) (z : List D) (x y : A), go C K b (⟨some d, .apz sz bytes z x y, none, p⟩ :: r) j tm hp es = (match apzT sz bytes (b + j) z (evT tm x) (evT tm y) with
  | some (v, o) => go C K b r (j + 1) ((d, v) :: tm) (hp.set (b + j) (some o)) (⟨[], true, b + j, 1⟩ :: es)
  | none => False)) ∧
  (∀ (sz bytes f s : Nat) (z : List D) (k : IntKind) (n : Int), apzT sz bytes f z (.nil s) (.d (.i k n)) = if 0 ≤ n ∧ roomy n.toNat bytes = true then some (.arr f 0 0 n.toNat, .arr 0 sz (List.replicate n.toNat (ofDs z))) else none) ∧
  (∀ C K b r j tm hp es (d p : Nat) (x : A), go C K b (⟨some d, .capn x, none, p⟩ :: r) j tm hp es = goV C K b d r j tm hp es [] (match evT tm x with | .nil _ => some (.d (.i .i64 0)) | _ => none)) ∧
  (∀ (C : CallF) (K : St → List Foot → Prop) (b d sz bytes : Nat) (r : List CO) (j : Nat) (tm : List (Nat × V)) (hp : List (Option Obj)) (es : List Foot) (s : Nat) (y : V) (ys : List (List V)), goAp C K b d sz bytes r j tm hp es (.nil s) y (some ys) = (roomy ys.length bytes = true ∧ go C K b r (j + 1) ((d, .arr (b + j) 0 0 ys.length) :: tm) (setObjs (setObjs hp (iaIds y) ((iaIds y).map (objT hp))) [b + j] [some (.arr 0 sz ys)]) (⟨iaIds y, true, b + j, 1⟩ :: es))) ∧
  (∀ (sz : Nat) (hp : List (Option Obj)) (s : Nat) (xs : List (List D)), apaY sz hp (.d (.l s xs)) = if s = sz then some (xs.map ofDs) else none) ∧
  (∀ (hp : List (Option Obj)) (sz s : Nat) (lo hi : Option V), slcT sz hp (.nil s) lo hi = match bounds lo hi 0 with | some _ => some (.nil s) | none => none) := by
 refine ⟨fun _ => rfl, fun _ _ _ _ _ => rfl, fun _ _ _ _ => rfl, fun _ _ _ => rfl, fun _ => rfl, fun C K b r j tm hp es d p sz bytes z x y => go_apz ..,?_, fun C K b r j tm hp es d p x => go_capn .., ?_, ?_, ?_⟩
 ·intros; rfl
 ·intros; rfl
 ·intro sz hp s xs
  simp only [apaY, iaIds, List.map_nil, arrMore, moreOf]
  by_cases h : s = sz <;> simp [h]
 ·intros; rfl
abbrev zR : List V := [.d (.i .i64 0), .d (.i .i64 0), .d (.s []), .d (.l 4 [])]
theorem refs_rep (n : Nat) : refsRows (List.replicate n zR) = [] := by
 induction n with
 | zero => rfl
 | succ n ih => simp only [List.replicate_succ, refsRows, ih]; rfl
theorem ren_rep (f sh : Nat → Nat) (n : Nat) : renRows f sh (List.replicate n zR) = List.replicate n zR := by
 induction n with
 | zero => rfl
 | succ n ih => simp only [List.replicate_succ, renRows, ih]; rfl
theorem grow0_ok (A : XE E) : lcall E 325 [.nil 4, .d (.i .i64 0)] [] = some (.nil 4, []) := by
 refine call_q A.e325 ?_
 have w0 : IntKind.i64.wrap 0 = 0 := rfl
 simp only [evAll, ↓reduceIte, Nat.reduceEqDiff, Nat.reduceAdd, reduceCtorEq, Int.reduceLT, Int.reduceLE, Int.reduceToNat, c325, evZ, w0, Int.sub_self]
theorem growN_ok (A : XE E) {n : Nat} (h0 : 0 < n) (hn : n ≤ 100000) : lcall E 325 [.nil 4, .d (.i .i64 n)] [] = some (.arr 0 0 0 0, [some (.arr 0 4 (List.replicate n zR))]) := by
 refine call_q A.e325 ?_
 have w0 : IntKind.i64.wrap 0 = 0 := rfl
 have h1 : ¬ (n : Int) < 0 := by omega
 have w1 : IntKind.i64.wrap (n : Int) = n := i64w (by omega) (by omega)
 have h2 : (n : Int) > 0 := by omega
 have h3 : (0 : Int) ≤ (n : Int) := by omega
 have r2 : roomy n 56 = true := by unfold roomy; exact decide_eq_true (by omega)
 have b1 : bounds none (some (.d (.i .i64 0))) 0 = some (0, 0) := rfl
 have b2 : bounds none (some (.d (.i .i64 0))) n = some (0, 0) := by
  unfold bounds
  simp only
  rw [if_pos ⟨by omega, by omega, by omega⟩]; rfl
 simp only [evAll, ↓reduceIte, Nat.reduceEqDiff, Nat.reduceAdd, Nat.reduceSub, reduceCtorEq, c325, evZ, w0, Int.sub_self, Int.sub_zero, h1, w1, eq_true h2, eq_true h3, r2, b1, b2, ofDs, refs_rep, ren_rep]
theorem map_ofDs_app (a b : List (List D)) : a.map ofDs ++ b.map ofDs = (a ++ b).map ofDs := by simp
theorem concat_ok (A : XE E) {R1 R2 : List (List D)} (h1 : R1.length ≤ 1000) (h2 : R2.length ≤ 1000) : ∃ v, lcall E 314 [.d (.l 1 [[.l 4 R1], [.l 4 R2]])] [] = some (.arr 0 v 0 (R1 ++ R2).length, [some (.arr v 4 ((R1 ++ R2).map ofDs))]) := by
 have w1 : IntKind.i64.wrap (0 + (R1.length : Int)) = (R1.length : Int) := by rw [Int.zero_add]; exact i64w (by omega) (by omega)
 have w2 : IntKind.i64.wrap ((R1.length : Int) + (R2.length : Int)) = ((R1.length + R2.length : Nat) : Int) := by rw [i64w (by omega) (by omega)]; omega
 have n1 : ¬ (R1.length : Int) < 0 := by omega
 have n2 : ¬ ((R1.length + R2.length : Nat) : Int) < 0 := by omega
 have a1 : IntKind.i64.wrap (0 + 1) = 1 := rfl
 have a2 : IntKind.i64.wrap (1 + 1) = 2 := rfl
 have lt : (0 : Int) < 2 := by omega
 have r1 : roomy R1.length 56 = true := by unfold roomy; exact decide_eq_true (by omega)
 have r2 : roomy (R1.length + R2.length) 56 = true := by unfold roomy; exact decide_eq_true (by omega)
 rcases Nat.eq_zero_or_pos (R1.length + R2.length) with h | h
 ·have e1 : R1 = [] := List.eq_nil_of_length_eq_zero (by omega)
  have e2 : R2 = [] := List.eq_nil_of_length_eq_zero (by omega)
  subst e1; subst e2
  have g := grow0_ok A
  refine ⟨1, call_q A.e314 ?_⟩
  have z0 : roomy 0 56 = true := rfl
  have w0 : IntKind.i64.wrap 0 = 0 := rfl
  simp only [evAll, ↓reduceIte, Nat.reduceEqDiff, Nat.reduceAdd, reduceCtorEq, c314]
  refine lx_step ?_
  simp only [evAll, ↓reduceIte, Nat.reduceEqDiff, reduceCtorEq, Int.reduceLT, Int.reduceLE, loopQ, Int.reduceToNat, evZ, a1, w0, Int.add_zero]
  refine ⟨_, rfl, lx_step ?_⟩
  simp only [evAll, ↓reduceIte, Nat.reduceEqDiff, reduceCtorEq, Int.reduceLT, Int.reduceLE, loopQ, Int.reduceToNat, evZ, a2, w0, Int.add_zero]
  refine ⟨_, rfl, lx_step ?_⟩
  simp only [evAll, ↓reduceIte, Nat.reduceEqDiff, Nat.reduceAdd, Nat.reduceLeDiff, reduceCtorEq, Int.reduceLE, loopQ, Int.reduceToNat, evZ, Int.lt_irrefl, g]
  refine lx_step ?_
  simp only [evAll, ↓reduceIte, Nat.reduceEqDiff, Nat.reduceAdd, Int.reduceLT, Int.reduceLE, loopQ, Int.reduceToNat, evZ, a1, z0]
  refine ⟨_, rfl, lx_step ?_⟩
  simp only [evAll, ↓reduceIte, Nat.reduceEqDiff, Nat.reduceAdd, Nat.reduceLeDiff, Int.reduceLT, Int.reduceLE, loopQ, Int.reduceToNat, evZ2, evZ, a2, z0, V.other]
  refine ⟨_, rfl, lx_step ?_⟩
  simp only [evAll, ↓reduceIte, Nat.reduceEqDiff, Nat.reduceAdd, Int.reduceLE, loopQ, Int.reduceToNat, Int.lt_irrefl, refsRows, renRows]
 ·have g := growN_ok A h (by omega)
  refine ⟨2, call_q A.e314 ?_⟩
  simp only [evAll, ↓reduceIte, Nat.reduceEqDiff, Nat.reduceAdd, reduceCtorEq, c314]
  refine lx_step ?_
  simp only [evAll, ↓reduceIte, Nat.reduceEqDiff, reduceCtorEq, Int.reduceLT, Int.reduceLE, loopQ, Int.reduceToNat, evZ, a1, w1, n1]
  refine ⟨_, rfl, lx_step ?_⟩
  simp only [evAll, ↓reduceIte, Nat.reduceEqDiff, reduceCtorEq, Int.reduceLT, Int.reduceLE, loopQ, Int.reduceToNat, evZ, a2, w2, n2]
  refine ⟨_, rfl, lx_step ?_⟩
  simp only [evAll, ↓reduceIte, Nat.reduceEqDiff, Nat.reduceAdd, Nat.reduceLeDiff, Nat.reduceSub, Nat.reduceLT, reduceCtorEq, Int.reduceLE, loopQ, Int.reduceToNat, List.range'_one, evZ, Int.lt_irrefl, g, ren_rep]
  refine lx_step ?_
  simp only [evAll, ↓reduceIte, Nat.reduceEqDiff, Nat.reduceAdd, Int.reduceLT, Int.reduceLE, loopQ, Int.reduceToNat, evZ2, evZ, a1, List.length_replicate, r1, List.length_map, V.other, Nat.zero_le]
  refine ⟨_, rfl, lx_step ?_⟩
  have tk : (R1.map ofDs).take R1.length = R1.map ofDs := List.take_of_length_le (by simp)
  simp only [evAll, ↓reduceIte, Nat.reduceEqDiff, Nat.reduceAdd, Int.reduceLT, Int.reduceLE, loopQ, Int.reduceToNat, evZ2, evZ, a2, r2, List.length_map, tk, map_ofDs_app, V.other, Nat.le_refl]
  refine ⟨_, rfl, lx_step ?_⟩
  simp only [evAll, ↓reduceIte, Nat.reduceEqDiff, Nat.reduceAdd, Int.reduceLE, loopQ, Int.reduceToNat, Int.lt_irrefl, refsRows_ofDs, renRows_ofDs, List.length_append]
end Ab.Vx
