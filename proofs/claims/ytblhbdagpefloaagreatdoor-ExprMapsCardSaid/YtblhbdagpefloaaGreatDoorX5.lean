/-
 What is asked of an Env.
-/
import Derived.Test.YtblhbdagpefloaaGreatDoorX4
namespace Ab.Vx
open Go
set_option linter.unusedVariables false
set_option linter.unusedSimpArgs false
set_option maxRecDepth 100000
variable {E : Nat → Option Fn}
def pairG (k v : GVal) : GVal := .mk 4 0 [] [k, v]
def putL (l : List GVal) (k v : GVal) : List GVal := l.take (posK k.s l) ++ pairG k v :: l.drop (if hasK k.s l then posK k.s l + 1 else posK k.s l)
def getG (m k : GVal) : GVal := if hasK k.s m.l then (match m.l[posK k.s m.l]? with | some (.mk _ _ _ (_ :: x :: _)) => x | _ => badG 7) else badG 7
theorem envbad_ok (A : XE E) (op : Int) {l : List GVal} (hl : l.length ≤ 100) (h2 : 2 ≤ l.length) (hk : kindsB l [6, 3] = false) : lcall E 303 [.d (.i .i64 op), .d (.l 4 (gvalRows l))] [] = some ((badG 4).arg, []) := by
 have b4 := bad_ok A 4
 have k1 := kinds_ok A (l := l) (ws := [6, 3]) (by omega) (by simpa using h2)
 rw [hk, kr2] at k1
 refine call_q A.e303 ?_
 simp only [evAll, ↓reduceIte, Nat.reduceEqDiff, Nat.reduceAdd, Nat.reduceLeDiff, Nat.reduceLT, reduceCtorEq, Int.reduceLE, Int.reduceToNat, c303, k1, b4]
theorem has_ok (A : XE E) (hf : FindOk E) {m k : GVal} (hm : szN m ≤ 500) (h6 : m.kind = 6) (h3 : k.kind = 3) (hc : chainB ltK m.l = true) (hp : ∀ x ∈ m.l, 0 < x.l.length) :
  lcall E 303 [.d (.i .i64 18), .d (.l 4 [m.row, k.row])] [] = some ((boolG (hasK k.s m.l)).arg, []) := by
 have lm := len_le m
 have k1 := kinds_ok A (l := [m, k]) (ws := [6, 3]) (by simp) (by simp)
 have f1 := hf m.l k.s (by omega) hc hp
 have tr := truth_ok A (hasK k.s m.l)
 simp only [gvalRows, kindsB, Bool.and_true, row_eq, decide_eq_true h6, decide_eq_true h3, kr2] at k1
 rw [row_eq, row_eq]
 refine call_q A.e303 ?_
 simp only [evAll, ↓reduceIte, Nat.reduceEqDiff, Nat.reduceAdd, Nat.reduceLeDiff, Nat.reduceLT, reduceCtorEq, Int.reduceEq, Int.reduceLE, Int.reduceToNat, c303, k1, f1, tr]
theorem hasK_get {k : List UInt8} {l : List GVal} (h : hasK k l = true) : ∃ x, l[posK k l]? = some x := by
 unfold hasK at h
 split at h
 ·exact ⟨_, by assumption⟩
 ·cases h
theorem get_ok (A : XE E) (hf : FindOk E) {m k : GVal} (hm : szN m ≤ 500) (h6 : m.kind = 6) (h3 : k.kind = 3) (hc : chainB ltK m.l = true) (hp : ∀ x ∈ m.l, x.l.length = 2) :
  lcall E 303 [.d (.i .i64 17), .d (.l 4 [m.row, k.row])] [] = some ((getG m k).arg, []) := by
 have lm := len_le m
 have b7 := bad_ok A 7
 have k1 := kinds_ok A (l := [m, k]) (ws := [6, 3]) (by simp) (by simp)
 have f1 := hf m.l k.s (by omega) hc (fun x hx => by rw [hp x hx]; omega)
 simp only [gvalRows, kindsB, Bool.and_true, row_eq, decide_eq_true h6, decide_eq_true h3, kr2] at k1
 rw [row_eq, row_eq]
 refine call_q A.e303 ?_
 unfold getG
 cases hh : hasK k.s m.l with
 | false =>
  rw [hh] at f1
  simp only [evAll, ↓reduceIte, Nat.reduceEqDiff, Nat.reduceAdd, Nat.reduceLeDiff, Nat.reduceLT, reduceCtorEq, Int.reduceEq, Int.reduceLE, Int.reduceToNat, c303, k1, f1, b7]
 | true =>
  rw [hh] at f1
  obtain ⟨x, hx⟩ := hasK_get hh
  have h0 : (0 : Int) ≤ (posK k.s m.l : Nat) := by omega
  have gx : (gvalRows m.l)[posK k.s m.l]? = some x.row := by rw [gvalRows_get, hx]; rfl
  have l2 := hp x (List.mem_of_getElem? hx)
  obtain ⟨xk, xi, xs, xl⟩ := x
  match xl, l2 with
  | [a, b], _ =>
   rw [if_pos rfl, hx]
   simp only [GVal.row, gvalRows, row_eq] at gx
   simp only [evAll, ↓reduceIte, Nat.reduceEqDiff, Nat.reduceAdd, Nat.reduceLeDiff, Nat.reduceLT, reduceCtorEq, Int.reduceEq, Int.reduceLT, Int.reduceLE, Int.reduceToNat, c303, k1, f1, eq_true h0, gx]
theorem delete_call (A : XE E) (l : List GVal) (i : Nat) (hi : i < l.length) (hl : l.length ≤ 1000) :
  lcall E 315 [.arr 0 0 0 l.length, .d (.i .i64 i), .d (.i .i64 ((i + 1 : Nat) : Int))] [some (.arr 0 4 ((gvalRows l).map ofDs))] = some (.arr 0 1 0 (l.take i ++ l.drop (i + 1)).length, [some (.arr 1 4 ((gvalRows (l.take i ++ l.drop (i + 1))).map ofDs))]) := by
 rw [lcall_prim A.e315]
 simp only [delImpl, rowsD_ofDs]
 rw [if_pos ⟨trivial, by simp [gvalRows_length], by omega, by omega, by omega, by omega⟩]
 have e : (gvalRows l).take i ++ (gvalRows l).drop (i + 1) = gvalRows (l.take i ++ l.drop (i + 1)) := by simp [gvalRows_append, gvalRows_take, gvalRows_drop]
 have n : i + (l.length - (i + 1)) = (l.take i ++ l.drop (i + 1)).length := by simp; omega
 simp only [Int.toNat_natCast, e, n]
theorem insert_callV (A : XE E) (ver : Nat) (l : List GVal) (v : GVal) (i : Nat) (hi : i ≤ l.length) (hl : l.length ≤ 1000) :
  lcall E 134 [.arr 0 ver 0 l.length, .d (.i .i64 i), .d (.l 4 [v.row])] [some (.arr ver 4 ((gvalRows l).map ofDs))] = some (.d (.l 4 (gvalRows (l.take i ++ v :: l.drop i))), [some (.arr (ver + 1) 4 [])]) := by
 have e : insRows (gvalRows l) i v.row = gvalRows (l.take i ++ v :: l.drop i) := by simp [insRows, gvalRows_append, gvalRows_take, gvalRows_drop, gvalRows]
 rw [lcall_prim A.e134]
 simp only [insImpl, rowsD_ofDs]
 rw [if_pos ⟨trivial, by simp [gvalRows_length], by omega, by omega, by omega⟩]
 simp only [Int.toNat_natCast, e]
theorem put_ok (A : XE E) (hf : FindOk E) {m k v : GVal} (hm : szN m ≤ 500) (h6 : m.kind = 6) (h3 : k.kind = 3) (hc : chainB ltK m.l = true) (hp : ∀ x ∈ m.l, 0 < x.l.length) :
  lcall E 303 [.d (.i .i64 16), .d (.l 4 [m.row, k.row, v.row])] [] = some ((GVal.mk 6 0 [] (putL m.l k v)).arg, []) := by
 have lm := len_le m
 have k1 := kinds_ok A (l := [m, k, v]) (ws := [6, 3]) (by simp) (by simp)
 have f1 := hf m.l k.s (by omega) hc hp
 have cl1 := clone_call A.e146 m.l (by omega)
 have cl2 := clone_call A.e146 [k, v] (by simp)
 have st2 : settle 0 (.arr 0 0 0 2) [some (.arr 0 4 ((gvalRows [k, v]).map ofDs))] = some (.d (.l 4 (gvalRows [k, v])), []) := settle_arr rfl (rows_len _) (by simp [gvalRows])
 have b13 : bounds (some (.d (.i .i64 1))) (some (.d (.i .i64 3))) 3 = some (1, 3) := rfl
 have hle := posK_le k.s m.l
 simp only [gvalRows, kindsB, Bool.and_true, row_eq, decide_eq_true h6, decide_eq_true h3, kr2] at k1
 rw [row_eq, row_eq, row_eq]
 simp only [gvalRows, row_eq, List.length_cons, List.length_nil, List.map_cons, List.map_nil, ofDs] at cl2 st2
 refine call_q A.e303 ?_
 unfold putL
 cases hh : hasK k.s m.l with
 | false =>
  rw [hh] at f1
  have i1 := insert_callV A 0 m.l (pairG k v) (posK k.s m.l) (by omega) (by omega)
  simp only [pairG, row_eq, gF] at i1
  simp only [evAll, ↓reduceIte, Nat.reduceEqDiff, Nat.reduceAdd, Nat.reduceLeDiff, Nat.reduceSub, Nat.reduceLT, reduceCtorEq, Int.reduceEq, Int.reduceLE, Int.reduceToNat, List.range'_one, c303, k1, f1, cl1, renRows_ofDs, refsRows_ofDs, b13, cl2, st2, i1]
  rfl
 | true =>
  rw [hh] at f1
  obtain ⟨x, hx⟩ := hasK_get hh
  have hlt : posK k.s m.l < m.l.length := by
   rcases Nat.lt_or_ge (posK k.s m.l) m.l.length with h | h
   ·exact h
   ·rw [List.getElem?_eq_none h] at hx; cases hx
  have d1 := delete_call A m.l (posK k.s m.l) hlt (by omega)
  have w : IntKind.i64.wrap (((posK k.s m.l : Nat) : Int) + 1) = ((posK k.s m.l + 1 : Nat) : Int) := by rw [i64_in (by omega) (by omega)]; omega
  have i1 := insert_callV A 1 (m.l.take (posK k.s m.l) ++ m.l.drop (posK k.s m.l + 1)) (pairG k v) (posK k.s m.l) (by simp; omega) (by simp; omega)
  have e1 : (m.l.take (posK k.s m.l) ++ m.l.drop (posK k.s m.l + 1)).take (posK k.s m.l) = m.l.take (posK k.s m.l) := by rw [List.take_append_of_le_length (by simp; omega), List.take_take]; simp
  have e2 : (m.l.take (posK k.s m.l) ++ m.l.drop (posK k.s m.l + 1)).drop (posK k.s m.l) = m.l.drop (posK k.s m.l + 1) := by rw [List.drop_append_of_le_length (by simp; omega)]; simp
  rw [e1, e2] at i1
  simp only [pairG, row_eq, gF] at i1
  rw [if_pos rfl]
  simp only [evAll, ↓reduceIte, Nat.reduceEqDiff, Nat.reduceAdd, Nat.reduceLeDiff, Nat.reduceSub, Nat.reduceLT, reduceCtorEq, Int.reduceEq, Int.reduceLE, Int.reduceToNat, List.range'_one, c303, k1, f1, cl1, renRows_ofDs, refsRows_ofDs, w, d1, b13, cl2, st2, i1]
  rfl
end Ab.Vx
