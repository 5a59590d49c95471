/-
 Names of one letter, and numbers under them: a map of four.
-/
import Derived.Test.YtblhbdagpefloaaGreatDoorX17
namespace Ab.Vx
open Go
set_option linter.unusedVariables false
set_option linter.unusedSimpArgs false
set_option maxRecDepth 100000
set_option maxHeartbeats 1000000
variable {E : Nat → Option Fn}
def strG (s : List UInt8) : GVal := .mk 3 0 s []
def optR (b : UInt8) : Option Int → List GVal
 | none => []
 | some n => [pairG (strG [b]) (intG n)]
def envR (a b c d : Option Int) : List GVal := optR 97 a ++ optR 98 b ++ optR 99 c ++ optR 100 d
theorem put0 (a b c d : Option Int) (v : Int) : putL (envR a b c d) (strG [97]) (intG v) = envR (some v) b c d := by
 cases a <;> cases b <;> cases c <;> cases d <;> rfl
theorem put1 (a b c d : Option Int) (v : Int) : putL (envR a b c d) (strG [98]) (intG v) = envR a (some v) c d := by
 cases a <;> cases b <;> cases c <;> cases d <;> rfl
theorem put2 (a b c d : Option Int) (v : Int) : putL (envR a b c d) (strG [99]) (intG v) = envR a b (some v) d := by
 cases a <;> cases b <;> cases c <;> cases d <;> rfl
theorem put3 (a b c d : Option Int) (v : Int) : putL (envR a b c d) (strG [100]) (intG v) = envR a b c (some v) := by
 cases a <;> cases b <;> cases c <;> cases d <;> rfl
theorem get0 (a b c d : Option Int) : getG (.mk 6 0 [] (envR a b c d)) (strG [97]) = (a.map intG).getD (badG 7) := by
 cases a <;> cases b <;> cases c <;> cases d <;> rfl
theorem get1 (a b c d : Option Int) : getG (.mk 6 0 [] (envR a b c d)) (strG [98]) = (b.map intG).getD (badG 7) := by
 cases a <;> cases b <;> cases c <;> cases d <;> rfl
theorem get2 (a b c d : Option Int) : getG (.mk 6 0 [] (envR a b c d)) (strG [99]) = (c.map intG).getD (badG 7) := by
 cases a <;> cases b <;> cases c <;> cases d <;> rfl
theorem get3 (a b c d : Option Int) : getG (.mk 6 0 [] (envR a b c d)) (strG [100]) = (d.map intG).getD (badG 7) := by
 cases a <;> cases b <;> cases c <;> cases d <;> rfl
theorem has0 (a b c d : Option Int) : hasK [97] (envR a b c d) = a.isSome := by
 cases a <;> cases b <;> cases c <;> cases d <;> rfl
theorem has1 (a b c d : Option Int) : hasK [98] (envR a b c d) = b.isSome := by
 cases a <;> cases b <;> cases c <;> cases d <;> rfl
theorem has2 (a b c d : Option Int) : hasK [99] (envR a b c d) = c.isSome := by
 cases a <;> cases b <;> cases c <;> cases d <;> rfl
theorem has3 (a b c d : Option Int) : hasK [100] (envR a b c d) = d.isSome := by
 cases a <;> cases b <;> cases c <;> cases d <;> rfl
def mapG (a b c d : Option Int) : GVal := .mk 6 0 [] (envR a b c d)
theorem map_gd (a b c d : Option Int) : Gd (mapG a b c d) := by
 cases a <;> cases b <;> cases c <;> cases d <;> exact ⟨rfl, Nat.le_of_ble_eq_true rfl⟩
theorem str_gd (b : UInt8) : Gd (strG [b]) := ⟨rfl, by rw [szN_eq]; simp [strG, gF, szL]⟩
theorem eval_put {e : Exp} {a b c d a' b' c' d' : Option Int} {x : UInt8} {v : Int} (h : evalF [] [] e = mapG a b c d) (hp : putL (envR a b c d) (strG [x]) (intG v) = envR a' b' c' d') : evalF [] [] (doE 16 [e, conE (strG [x]), conE (intG v)]) = mapG a' b' c' d' := by
 rw [evalF_eq]
 show fitG (coreG [] [] 16 zeroV 0 0 [evalF [] [] e, evalF [] [] (conE (strG [x])), evalF [] [] (conE (intG v))]) = _
 rw [h, eval_con (str_gd x), eval_con (gd_int v)]
 have : coreG [] [] 16 zeroV 0 0 [mapG a b c d, strG [x], intG v] = .mk 6 0 [] (putL (envR a b c d) (strG [x]) (intG v)) := rfl
 rw [this, hp]
 exact fit_of (map_gd a' b' c' d').size
theorem eval_get {a b c d : Option Int} {x : UInt8} {r : GVal} (hp : getG (.mk 6 0 [] (envR a b c d)) (strG [x]) = r) (hr : Gd r) : evalF [] [] (doE 17 [conE (mapG a b c d), conE (strG [x])]) = r := by
 rw [evalF_eq]
 show fitG (coreG [] [] 17 zeroV 0 0 [evalF [] [] (conE (mapG a b c d)), evalF [] [] (conE (strG [x]))]) = _
 rw [eval_con (map_gd a b c d), eval_con (str_gd x)]
 have : coreG [] [] 17 zeroV 0 0 [mapG a b c d, strG [x]] = getG (mapG a b c d) (strG [x]) := rfl
 rw [this, show mapG a b c d = .mk 6 0 [] (envR a b c d) from rfl, hp]
 exact fit_of hr.size
theorem eval_has {a b c d : Option Int} {x : UInt8} {r : Bool} (hp : hasK [x] (envR a b c d) = r) : evalF [] [] (doE 18 [conE (mapG a b c d), conE (strG [x])]) = boolG r := by
 rw [evalF_eq]
 show fitG (coreG [] [] 18 zeroV 0 0 [evalF [] [] (conE (mapG a b c d)), evalF [] [] (conE (strG [x]))]) = _
 rw [eval_con (map_gd a b c d), eval_con (str_gd x)]
 have : coreG [] [] 18 zeroV 0 0 [mapG a b c d, strG [x]] = boolG (hasK [x] (envR a b c d)) := rfl
 rw [this, hp]
 exact fit_of (gd_bool r).size
def putLoop : CCode := match c261.body with
 | .seq _ (.seq _ (.seq _ (.seq _ (.seq _ (.seq _ (.seq (.seq _ (.block _ (.loop _ c))) _)))))) => c
 | _ => .skip
def getLoop : CCode := match c261.body with
 | .seq _ (.seq _ (.seq _ (.seq _ (.seq _ (.seq _ (.seq _ (.seq _ (.seq _ (.seq (.seq _ (.block _ (.loop _ c))) _))))))))) => c
 | _ => .skip
def p8Row (l : List (UInt8 × UInt8)) : List (List D) := l.map fun p => [.i .u8 p.1.toNat, .i .u8 p.2.toNat]
theorem p8_len (l : List (UInt8 × UInt8)) : (p8Row l).length = l.length := by simp [p8Row]
theorem p8_get (l : List (UInt8 × UInt8)) (i : Nat) : (p8Row l)[i]? = (l[i]?).map fun p => [.i .u8 p.1.toNat, .i .u8 p.2.toNat] := by simp [p8Row]
abbrev gi (a : Option Int) : Int := a.getD 0
abbrev bxP (op : Int) (R : List (List D)) : Option Obj := some (.box [.d (.i .i64 op), .d (.i .i64 0), .d (.i .i64 0), .d (.s []), .d (.l 4 []), .d (.i .i64 0), .d (.i .i64 0), .d (.l 8 R)])
abbrev bx4 (a b c d : Option Int) : Option Obj := some (.box [.d (.i .i64 (gi a)), .d (.i .i64 (gi b)), .d (.i .i64 (gi c)), .d (.i .i64 (gi d))])
def nz (a : Option Int) : Prop := ∀ x, a = some x → 0 < x
def cnt (a b c d : Option Int) : Nat := (envR a b c d).length
structure PutI (op : Int) (xs : List Exp) (a b c d : Option Int) : Prop where
 gd : GdE (doE op xs)
 ev : evalF [] [] (doE op xs) = mapG a b c d
 na : nz a
 nb : nz b
 nc : nz c
 nd : nz d
theorem cnt_le (a b c d : Option Int) : cnt a b c d ≤ 4 := by
 cases a <;> cases b <;> cases c <;> cases d <;> exact Nat.le_of_ble_eq_true rfl
theorem nz_some {v : Int} (h : 0 < v) : nz (some v) := fun x hx => by cases hx; exact h
abbrev rowS (s : List UInt8) : List D := [.i .i64 0, .i .i64 3, .i .i64 0, .s s, .l 4 [], .i .i64 0, .i .i64 0, .l 8 []]
abbrev cellS (s : List UInt8) : V := .agg [.d (.i .i64 0), .d (.i .i64 3), .d (.i .i64 0), .d (.s s), .d (.l 4 []), .d (.i .i64 0), .d (.i .i64 0), .d (.l 8 [])]
abbrev rowP (op : Int) (R : List (List D)) : List D := [.i .i64 op, .i .i64 0, .i .i64 0, .s [], .l 4 [], .i .i64 0, .i .i64 0, .l 8 R]
theorem put_rows (op : Int) (xs : List Exp) (s : List UInt8) (v : Int) : [rowP op (xs.map Exp.row), rowS s, rowI v] = [doE op xs, conE (strG s), conE (intG v)].map Exp.row := by
 rw [List.map_cons, List.map_cons, List.map_singleton, exp_row (doE op xs)]; rfl
theorem put_do (e272 : E 272 = some (.code c272)) (op : Int) (xs : List Exp) (s : List UInt8) (v : Int) :
  lcall E 272 [.d (.i .i64 16), .d (.l 8 [rowP op (xs.map Exp.row), rowS s, rowI v])] [] = some (cellL 16 ([doE op xs, conE (strG s), conE (intG v)].map Exp.row), []) := by
 rw [put_rows]; exact do_ok e272 16 _
theorem put_I {op : Int} {xs : List Exp} {a b c d a' b' c' d' : Option Int} (h : PutI op xs a b c d) {x : UInt8} {v : Int} (hp : putL (envR a b c d) (strG [x]) (intG v) = envR a' b' c' d') (n1 : nz a') (n2 : nz b') (n3 : nz c') (n4 : nz d') :
  PutI 16 [doE op xs, conE (strG [x]), conE (intG v)] a' b' c' d' :=
 ⟨gd_do (by decide) (by simp) (fun y hy => by
  simp only [List.mem_cons, List.not_mem_nil, or_false] at hy
  rcases hy with rfl | rfl | rfl
  ·exact h.gd
  ·exact gdE_con (str_gd x)
  ·exact gdE_con (gd_int v)), eval_put h.ev hp, n1, n2, n3, n4⟩
set_option maxHeartbeats 4000000 in
theorem put_loop {l : List (UInt8 × UInt8)} (hl : l.length ≤ 11) (e271 : E 271 = some (.code c271)) (e272 : E 272 = some (.code c272)) {Q : Ex → St → Prop}
  (hx : ∀ tm op xs a b c d, PutI op xs a b c d → look tm 3 = .ptr 0 0 → look tm 4 = .ptr 1 0 → look tm 5 = .d (.i .i64 (cnt a b c d)) → Q (.exit 0) ⟨tm, [bxP op (xs.map Exp.row), bx4 a b c d]⟩) :
  ∀ (m i : Nat) (op : Int) (xs : List Exp) (a b c d : Option Int), i + m = 10 → PutI op xs a b c d →
  LX E putLoop ⟨[0, 3, 4, 5, 6], [], [], [], [(3, 4), (3, 7)], true⟩ 2 ⟨[(0, .d (.l 2 (p8Row l))), (3, .ptr 0 0), (4, .ptr 1 0), (5, .d (.i .i64 (cnt a b c d))), (6, .d (.i .i64 i))], [bxP op (xs.map Exp.row), bx4 a b c d]⟩ Q := by
 intro m
 induction m with
 | zero =>
  intro i op xs a b c d hi hI
  have hn : ¬ ((i : Int) < 10) := by omega
  refine lx_step ?_
  by_cases y1 : (i : Int) < (l.length : Int)
  ·simp only [evAll, ↓reduceIte, Nat.reduceEqDiff, Nat.reduceAdd, reduceCtorEq, loopQ, putLoop, c261, p8_len, eq_true y1, hn]
   exact hx _ _ _ _ _ _ _ hI rfl rfl rfl
  ·simp only [evAll, ↓reduceIte, Nat.reduceEqDiff, Nat.reduceAdd, reduceCtorEq, loopQ, putLoop, c261, p8_len, y1]
   exact hx _ _ _ _ _ _ _ hI rfl rfl rfl
 | succ m ih =>
  intro i op xs a b c d him hI
  by_cases y1 : (i : Int) < (l.length : Int)
  case neg =>
   refine lx_step ?_
   simp only [evAll, ↓reduceIte, Nat.reduceEqDiff, Nat.reduceAdd, reduceCtorEq, loopQ, putLoop, c261, p8_len, y1]
   exact hx _ _ _ _ _ _ _ hI rfl rfl rfl
  have hi : i < l.length := by omega
  have y2 : (i : Int) < 10 := by omega
  obtain ⟨p, hp⟩ : ∃ p, l[i]? = some p := ⟨_, List.getElem?_eq_getElem hi⟩
  have gp : (p8Row l)[i]? = some [.i .u8 p.1.toNat, .i .u8 p.2.toNat] := by rw [p8_get, hp]; rfl
  have y3 : (0 : Int) ≤ (i : Int) := by omega
  have wi : IntKind.i64.wrap ((i : Int) + 1) = ((i + 1 : Nat) : Int) := by rw [i64_in (by omega) (by omega)]; omega
  have b2 := p.2.toBitVec.isLt
  have b2' : p.2.toNat < 256 := b2
  have w2 : IntKind.i64.wrap (p.2.toNat : Int) = p.2.toNat := i64_in (by omega) (by omega)
  have w3 : IntKind.i64.wrap ((p.2.toNat : Int) + 1) = p.2.toNat + 1 := i64_in (by omega) (by omega)
  have hv : 0 < ((p.2.toNat : Int) + 1) := by omega
  have kv : lcall E 271 [.agg [.d (.i .i64 1), .d (.i .i64 ((p.2.toNat : Int) + 1)), .d (.s []), .d (.l 4 [])]] [] = some (cellI ((p.2.toNat : Int) + 1), []) := con_ok e271 (intG _)
  have hc4 := cnt_le a b c d
  have wn : IntKind.i64.wrap ((cnt a b c d : Int) + 1) = ((cnt a b c d + 1 : Nat) : Int) := by rw [i64_in (by omega) (by omega)]; omega
  have ht : ((p.1.toNat : Int).tmod 4) = ((p.1.toNat % 4 : Nat) : Int) := rfl
  have h4 : p.1.toNat % 4 = 0 ∨ p.1.toNat % 4 = 1 ∨ p.1.toNat % 4 = 2 ∨ p.1.toNat % 4 = 3 := by omega
  rcases h4 with h4 | h4 | h4 | h4
  ·have w0 : IntKind.i64.wrap ((p.1.toNat : Int).tmod 4) = 0 := by rw [ht, h4]; rfl
   have wA : IntKind.i64.wrap (97 + 0) = 97 := rfl
   have wB : IntKind.u8.wrap 97 = 97 := rfl
   have ks : lcall E 271 [.agg [.d (.i .i64 3), .d (.i .i64 0), .d (.s [UInt8.ofNat 97]), .d (.l 4 [])]] [] = some (cellS [UInt8.ofNat 97], []) := con_ok e271 (strG [UInt8.ofNat 97])
   have hI' : PutI 16 [doE op xs, conE (strG [UInt8.ofNat 97]), conE (intG ((p.2.toNat : Int) + 1))] (some ((p.2.toNat : Int) + 1)) b c d := put_I hI (put0 a b c d _) (nz_some hv) hI.nb hI.nc hI.nd
   have dd := put_do e272 op xs [UInt8.ofNat 97] ((p.2.toNat : Int) + 1)
   have ih' := ih (i + 1) _ _ _ _ _ _ (by omega) hI'
   cases a with
   | none =>
    have hc : cnt (some ((p.2.toNat : Int) + 1)) b c d = cnt none b c d + 1 := by
     cases b <;> cases c <;> cases d <;> rfl
    rw [hc] at ih'
    refine lx_step ?_
    simp only [evAll, ↓reduceIte, Nat.reduceEqDiff, Nat.reduceAdd, Nat.reduceLeDiff, Nat.reduceLT, reduceCtorEq, Int.reduceEq, Int.reduceLT, Int.reduceLE, loopQ, Int.reduceToNat, Nat.reduceMul, putLoop, c261, p8_len, eq_true y1, eq_true y2, gp, eq_true y3, w0, wA, wB, ks, w2, w3, kv, dd, gi, Option.getD_none, wn, wi]
    exact ⟨by rfl, _, rfl, ih'⟩
   | some y =>
    have hy : ¬ y = 0 := by have := hI.na y rfl; omega
    have hc : cnt (some ((p.2.toNat : Int) + 1)) b c d = cnt (some y) b c d := by
     cases b <;> cases c <;> cases d <;> rfl
    rw [hc] at ih'
    refine lx_step ?_
    simp only [evAll, ↓reduceIte, Nat.reduceEqDiff, Nat.reduceAdd, Nat.reduceLeDiff, Nat.reduceLT, reduceCtorEq, Int.reduceEq, Int.reduceLT, Int.reduceLE, loopQ, Int.reduceToNat, Nat.reduceMul, putLoop, c261, p8_len, eq_true y1, eq_true y2, gp, eq_true y3, w0, wA, wB, ks, w2, w3, kv, dd, gi, Option.getD_some, hy, wi]
    exact ⟨by rfl, _, rfl, ih'⟩
  ·have w0 : IntKind.i64.wrap ((p.1.toNat : Int).tmod 4) = 1 := by rw [ht, h4]; rfl
   have wA : IntKind.i64.wrap (97 + 1) = 98 := rfl
   have wB : IntKind.u8.wrap 98 = 98 := rfl
   have ks : lcall E 271 [.agg [.d (.i .i64 3), .d (.i .i64 0), .d (.s [UInt8.ofNat 98]), .d (.l 4 [])]] [] = some (cellS [UInt8.ofNat 98], []) := con_ok e271 (strG [UInt8.ofNat 98])
   have hI' : PutI 16 [doE op xs, conE (strG [UInt8.ofNat 98]), conE (intG ((p.2.toNat : Int) + 1))] a (some ((p.2.toNat : Int) + 1)) c d := put_I hI (put1 a b c d _) hI.na (nz_some hv) hI.nc hI.nd
   have dd := put_do e272 op xs [UInt8.ofNat 98] ((p.2.toNat : Int) + 1)
   have ih' := ih (i + 1) _ _ _ _ _ _ (by omega) hI'
   cases b with
   | none =>
    have hc : cnt a (some ((p.2.toNat : Int) + 1)) c d = cnt a none c d + 1 := by
     cases a <;> cases c <;> cases d <;> rfl
    rw [hc] at ih'
    refine lx_step ?_
    simp only [evAll, ↓reduceIte, Nat.reduceEqDiff, Nat.reduceAdd, Nat.reduceLeDiff, Nat.reduceLT, reduceCtorEq, Int.reduceEq, Int.reduceLT, Int.reduceLE, loopQ, Int.reduceToNat, Nat.reduceMul, putLoop, c261, p8_len, eq_true y1, eq_true y2, gp, eq_true y3, w0, wA, wB, ks, w2, w3, kv, dd, gi, Option.getD_none, wn, wi]
    exact ⟨by rfl, _, rfl, ih'⟩
   | some y =>
    have hy : ¬ y = 0 := by have := hI.nb y rfl; omega
    have hc : cnt a (some ((p.2.toNat : Int) + 1)) c d = cnt a (some y) c d := by
     cases a <;> cases c <;> cases d <;> rfl
    rw [hc] at ih'
    refine lx_step ?_
    simp only [evAll, ↓reduceIte, Nat.reduceEqDiff, Nat.reduceAdd, Nat.reduceLeDiff, Nat.reduceLT, reduceCtorEq, Int.reduceEq, Int.reduceLT, Int.reduceLE, loopQ, Int.reduceToNat, Nat.reduceMul, putLoop, c261, p8_len, eq_true y1, eq_true y2, gp, eq_true y3, w0, wA, wB, ks, w2, w3, kv, dd, gi, Option.getD_some, hy, wi]
    exact ⟨by rfl, _, rfl, ih'⟩
  ·have w0 : IntKind.i64.wrap ((p.1.toNat : Int).tmod 4) = 2 := by rw [ht, h4]; rfl
   have wA : IntKind.i64.wrap (97 + 2) = 99 := rfl
   have wB : IntKind.u8.wrap 99 = 99 := rfl
   have ks : lcall E 271 [.agg [.d (.i .i64 3), .d (.i .i64 0), .d (.s [UInt8.ofNat 99]), .d (.l 4 [])]] [] = some (cellS [UInt8.ofNat 99], []) := con_ok e271 (strG [UInt8.ofNat 99])
   have hI' : PutI 16 [doE op xs, conE (strG [UInt8.ofNat 99]), conE (intG ((p.2.toNat : Int) + 1))] a b (some ((p.2.toNat : Int) + 1)) d := put_I hI (put2 a b c d _) hI.na hI.nb (nz_some hv) hI.nd
   have dd := put_do e272 op xs [UInt8.ofNat 99] ((p.2.toNat : Int) + 1)
   have ih' := ih (i + 1) _ _ _ _ _ _ (by omega) hI'
   cases c with
   | none =>
    have hc : cnt a b (some ((p.2.toNat : Int) + 1)) d = cnt a b none d + 1 := by
     cases a <;> cases b <;> cases d <;> rfl
    rw [hc] at ih'
    refine lx_step ?_
    simp only [evAll, ↓reduceIte, Nat.reduceEqDiff, Nat.reduceAdd, Nat.reduceLeDiff, Nat.reduceLT, reduceCtorEq, Int.reduceEq, Int.reduceLT, Int.reduceLE, loopQ, Int.reduceToNat, Nat.reduceMul, putLoop, c261, p8_len, eq_true y1, eq_true y2, gp, eq_true y3, w0, wA, wB, ks, w2, w3, kv, dd, gi, Option.getD_none, wn, wi]
    exact ⟨by rfl, _, rfl, ih'⟩
   | some y =>
    have hy : ¬ y = 0 := by have := hI.nc y rfl; omega
    have hc : cnt a b (some ((p.2.toNat : Int) + 1)) d = cnt a b (some y) d := by
     cases a <;> cases b <;> cases d <;> rfl
    rw [hc] at ih'
    refine lx_step ?_
    simp only [evAll, ↓reduceIte, Nat.reduceEqDiff, Nat.reduceAdd, Nat.reduceLeDiff, Nat.reduceLT, reduceCtorEq, Int.reduceEq, Int.reduceLT, Int.reduceLE, loopQ, Int.reduceToNat, Nat.reduceMul, putLoop, c261, p8_len, eq_true y1, eq_true y2, gp, eq_true y3, w0, wA, wB, ks, w2, w3, kv, dd, gi, Option.getD_some, hy, wi]
    exact ⟨by rfl, _, rfl, ih'⟩
  ·have w0 : IntKind.i64.wrap ((p.1.toNat : Int).tmod 4) = 3 := by rw [ht, h4]; rfl
   have wA : IntKind.i64.wrap (97 + 3) = 100 := rfl
   have wB : IntKind.u8.wrap 100 = 100 := rfl
   have ks : lcall E 271 [.agg [.d (.i .i64 3), .d (.i .i64 0), .d (.s [UInt8.ofNat 100]), .d (.l 4 [])]] [] = some (cellS [UInt8.ofNat 100], []) := con_ok e271 (strG [UInt8.ofNat 100])
   have hI' : PutI 16 [doE op xs, conE (strG [UInt8.ofNat 100]), conE (intG ((p.2.toNat : Int) + 1))] a b c (some ((p.2.toNat : Int) + 1)) := put_I hI (put3 a b c d _) hI.na hI.nb hI.nc (nz_some hv)
   have dd := put_do e272 op xs [UInt8.ofNat 100] ((p.2.toNat : Int) + 1)
   have ih' := ih (i + 1) _ _ _ _ _ _ (by omega) hI'
   cases d with
   | none =>
    have hc : cnt a b c (some ((p.2.toNat : Int) + 1)) = cnt a b c none + 1 := by
     cases a <;> cases b <;> cases c <;> rfl
    rw [hc] at ih'
    refine lx_step ?_
    simp only [evAll, ↓reduceIte, Nat.reduceEqDiff, Nat.reduceAdd, Nat.reduceLeDiff, Nat.reduceLT, reduceCtorEq, Int.reduceEq, Int.reduceLT, Int.reduceLE, loopQ, Int.reduceToNat, Nat.reduceMul, putLoop, c261, p8_len, eq_true y1, eq_true y2, gp, eq_true y3, w0, wA, wB, ks, w2, w3, kv, dd, gi, Option.getD_none, wn, wi]
    exact ⟨by rfl, _, rfl, ih'⟩
   | some y =>
    have hy : ¬ y = 0 := by have := hI.nd y rfl; omega
    have hc : cnt a b c (some ((p.2.toNat : Int) + 1)) = cnt a b c (some y) := by
     cases a <;> cases b <;> cases c <;> rfl
    rw [hc] at ih'
    refine lx_step ?_
    simp only [evAll, ↓reduceIte, Nat.reduceEqDiff, Nat.reduceAdd, Nat.reduceLeDiff, Nat.reduceLT, reduceCtorEq, Int.reduceEq, Int.reduceLT, Int.reduceLE, loopQ, Int.reduceToNat, Nat.reduceMul, putLoop, c261, p8_len, eq_true y1, eq_true y2, gp, eq_true y3, w0, wA, wB, ks, w2, w3, kv, dd, gi, Option.getD_some, hy, wi]
    exact ⟨by rfl, _, rfl, ih'⟩
theorem nz_none : nz none := fun _ h => by cases h
theorem put_start : PutI 22 [] none none none none := ⟨gd_do (by decide) (by simp) (by simp), rfl, nz_none, nz_none, nz_none, nz_none⟩
abbrev rowM (L : List (List D)) : List D := [.i .i64 0, .i .i64 6, .i .i64 0, .s [], .l 4 L, .i .i64 0, .i .i64 0, .l 8 []]
abbrev cellM (L : List (List D)) : V := .agg [.d (.i .i64 0), .d (.i .i64 6), .d (.i .i64 0), .d (.s []), .d (.l 4 L), .d (.i .i64 0), .d (.i .i64 0), .d (.l 8 [])]
abbrev bxN (L : List (List D)) : Option Obj := some (.box [.d (.i .i64 6), .d (.i .i64 0), .d (.s []), .d (.l 4 L)])
abbrev sGet (k op : Int) (R : List (List D)) (a b c d : Option Int) : St := ⟨[(4, .ptr 1 0), (8, .ptr 2 0), (9, .d (.i .i64 k))], [bxP op R, bx4 a b c d, bxN (gvalRows (envR a b c d))]⟩
structure GetF (E : Nat → Option Fn) (x : UInt8) (a b c d : Option Int) (r : GVal) (hb : Bool) : Prop where
 s : lcall E 271 [.agg [.d (.i .i64 3), .d (.i .i64 0), .d (.s [x]), .d (.l 4 [])]] [] = some (cellS [x], [])
 m : lcall E 271 [.agg [.d (.i .i64 6), .d (.i .i64 0), .d (.s []), .d (.l 4 (gvalRows (envR a b c d)))]] [] = some (cellM (gvalRows (envR a b c d)), [])
 g : lcall E 272 [.d (.i .i64 17), .d (.l 8 [rowM (gvalRows (envR a b c d)), rowS [x]])] [] = some (cellL 17 [rowM (gvalRows (envR a b c d)), rowS [x]], [])
 h : lcall E 272 [.d (.i .i64 18), .d (.l 8 [rowM (gvalRows (envR a b c d)), rowS [x]])] [] = some (cellL 18 [rowM (gvalRows (envR a b c d)), rowS [x]], [])
 vg : lcall E 269 [cellL 17 [rowM (gvalRows (envR a b c d)), rowS [x]], .d (.l 1 []), .d (.l 1 [])] [] = some (r.arg, [])
 vh : lcall E 269 [cellL 18 [rowM (gvalRows (envR a b c d)), rowS [x]], .d (.l 1 []), .d (.l 1 [])] [] = some ((boolG hb).arg, [])
theorem getF (A : XE E) (e271 : E 271 = some (.code c271)) (e272 : E 272 = some (.code c272)) {x : UInt8} {a b c d : Option Int} {r : GVal} {h : Bool} (hg : getG (.mk 6 0 [] (envR a b c d)) (strG [x]) = r) (hr : Gd r) (hh : hasK [x] (envR a b c d) = h) : GetF E x a b c d r h := by
 have gd : ∀ op, op ≠ 0 → GdE (doE op [conE (mapG a b c d), conE (strG [x])]) := fun op ho => gd_do ho (by simp) (fun y hy => by
  simp only [List.mem_cons, List.not_mem_nil, or_false] at hy
  rcases hy with rfl | rfl
  ·exact gdE_con (map_gd a b c d)
  ·exact gdE_con (str_gd x))
 refine ⟨con_ok e271 (strG [x]), con_ok e271 (mapG a b c d), do_ok e272 17 [conE (mapG a b c d), conE (strG [x])], do_ok e272 18 [conE (mapG a b c d), conE (strG [x])], ?_, ?_⟩
 ·rw [← eval_get hg hr]; exact Eval_ok (ev_of A) gdR_nil (gd 17 (by decide))
 ·rw [← eval_has hh]; exact Eval_ok (ev_of A) gdR_nil (gd 18 (by decide))
set_option maxHeartbeats 4000000 in
theorem get_s0 (A : XE E) (e271 : E 271 = some (.code c271)) (e272 : E 272 = some (.code c272)) {op : Int} {R : List (List D)} {a b c d : Option Int} (hz : nz a) {Q : Ex → St → Prop} (hq : LX E getLoop ⟨[4, 8, 9], [], [], [], [], true⟩ 3 (sGet 1 op R a b c d) Q) :
  LX E getLoop ⟨[4, 8, 9], [], [], [], [], true⟩ 3 (sGet 0 op R a b c d) Q := by
 have wA : IntKind.i64.wrap (97 + 0) = 97 := rfl
 have wB : IntKind.u8.wrap 97 = 97 := rfl
 have wi : IntKind.i64.wrap (0 + 1) = 1 := rfl
 have y1 : (0 : Int) < 4 := by decide
 cases a with
 | none =>
  have F := getF (x := UInt8.ofNat 97) A e271 e272 (get0 none b c d) (gd_bad (by decide)) (has0 none b c d)
  refine lx_step ?_
  simp only [evAll, ↓reduceIte, Nat.reduceEqDiff, Nat.reduceAdd, Nat.reduceLeDiff, Nat.reduceLT, Int.reduceLT, Int.reduceLE, loopQ, Int.reduceToNat, Nat.reduceMul, getLoop, c261, eq_true y1, wA, wB, wi, F.s, F.m, F.g, F.h, F.vg, F.vh, gi, Option.getD_none, Option.map_none, badG, gF, boolG, Option.isSome_none]
  exact ⟨by rfl, by rfl, by rfl, _, rfl, hq⟩
 | some y =>
  have hp : 0 < y := hz y rfl
  have hy : ¬ y = 0 := by omega
  have F := getF (x := UInt8.ofNat 97) A e271 e272 (get0 (some y) b c d) (gd_int y) (has0 (some y) b c d)
  refine lx_step ?_
  simp only [evAll, ↓reduceIte, Nat.reduceEqDiff, Nat.reduceAdd, Nat.reduceLeDiff, Nat.reduceLT, Int.reduceLE, loopQ, Int.reduceToNat, Nat.reduceMul, getLoop, c261, eq_true y1, wA, wB, wi, F.s, F.m, F.g, F.h, F.vg, F.vh, gi, Option.getD_some, Option.map_some, intG, gF, boolG, Option.isSome_some, hy, eq_true hp]
  exact ⟨by rfl, by rfl, by rfl, _, rfl, hq⟩
set_option maxHeartbeats 4000000 in
theorem get_s1 (A : XE E) (e271 : E 271 = some (.code c271)) (e272 : E 272 = some (.code c272)) {op : Int} {R : List (List D)} {a b c d : Option Int} (hz : nz b) {Q : Ex → St → Prop} (hq : LX E getLoop ⟨[4, 8, 9], [], [], [], [], true⟩ 3 (sGet 2 op R a b c d) Q) :
  LX E getLoop ⟨[4, 8, 9], [], [], [], [], true⟩ 3 (sGet 1 op R a b c d) Q := by
 have wA : IntKind.i64.wrap (97 + 1) = 98 := rfl
 have wB : IntKind.u8.wrap 98 = 98 := rfl
 have wi : IntKind.i64.wrap (1 + 1) = 2 := rfl
 have y1 : (1 : Int) < 4 := by decide
 cases b with
 | none =>
  have F := getF (x := UInt8.ofNat 98) A e271 e272 (get1 a none c d) (gd_bad (by decide)) (has1 a none c d)
  refine lx_step ?_
  simp only [evAll, ↓reduceIte, Nat.reduceEqDiff, Nat.reduceAdd, Nat.reduceLeDiff, Nat.reduceLT, Int.reduceLT, Int.reduceLE, loopQ, Int.reduceToNat, Nat.reduceMul, getLoop, c261, eq_true y1, wA, wB, wi, F.s, F.m, F.g, F.h, F.vg, F.vh, gi, Option.getD_none, Option.map_none, badG, gF, boolG, Option.isSome_none]
  exact ⟨by rfl, by rfl, by rfl, _, rfl, hq⟩
 | some y =>
  have hp : 0 < y := hz y rfl
  have hy : ¬ y = 0 := by omega
  have F := getF (x := UInt8.ofNat 98) A e271 e272 (get1 a (some y) c d) (gd_int y) (has1 a (some y) c d)
  refine lx_step ?_
  simp only [evAll, ↓reduceIte, Nat.reduceEqDiff, Nat.reduceAdd, Nat.reduceLeDiff, Nat.reduceLT, Int.reduceLE, loopQ, Int.reduceToNat, Nat.reduceMul, getLoop, c261, eq_true y1, wA, wB, wi, F.s, F.m, F.g, F.h, F.vg, F.vh, gi, Option.getD_some, Option.map_some, intG, gF, boolG, Option.isSome_some, hy, eq_true hp]
  exact ⟨by rfl, by rfl, by rfl, _, rfl, hq⟩
set_option maxHeartbeats 4000000 in
theorem get_s2 (A : XE E) (e271 : E 271 = some (.code c271)) (e272 : E 272 = some (.code c272)) {op : Int} {R : List (List D)} {a b c d : Option Int} (hz : nz c) {Q : Ex → St → Prop} (hq : LX E getLoop ⟨[4, 8, 9], [], [], [], [], true⟩ 3 (sGet 3 op R a b c d) Q) :
  LX E getLoop ⟨[4, 8, 9], [], [], [], [], true⟩ 3 (sGet 2 op R a b c d) Q := by
 have wA : IntKind.i64.wrap (97 + 2) = 99 := rfl
 have wB : IntKind.u8.wrap 99 = 99 := rfl
 have wi : IntKind.i64.wrap (2 + 1) = 3 := rfl
 have y1 : (2 : Int) < 4 := by decide
 cases c with
 | none =>
  have F := getF (x := UInt8.ofNat 99) A e271 e272 (get2 a b none d) (gd_bad (by decide)) (has2 a b none d)
  refine lx_step ?_
  simp only [evAll, ↓reduceIte, Nat.reduceEqDiff, Nat.reduceAdd, Nat.reduceLeDiff, Nat.reduceLT, Int.reduceLT, Int.reduceLE, loopQ, Int.reduceToNat, Nat.reduceMul, getLoop, c261, eq_true y1, wA, wB, wi, F.s, F.m, F.g, F.h, F.vg, F.vh, gi, Option.getD_none, Option.map_none, badG, gF, boolG, Option.isSome_none]
  exact ⟨by rfl, by rfl, by rfl, _, rfl, hq⟩
 | some y =>
  have hp : 0 < y := hz y rfl
  have hy : ¬ y = 0 := by omega
  have F := getF (x := UInt8.ofNat 99) A e271 e272 (get2 a b (some y) d) (gd_int y) (has2 a b (some y) d)
  refine lx_step ?_
  simp only [evAll, ↓reduceIte, Nat.reduceEqDiff, Nat.reduceAdd, Nat.reduceLeDiff, Nat.reduceLT, Int.reduceLE, loopQ, Int.reduceToNat, Nat.reduceMul, getLoop, c261, eq_true y1, wA, wB, wi, F.s, F.m, F.g, F.h, F.vg, F.vh, gi, Option.getD_some, Option.map_some, intG, gF, boolG, Option.isSome_some, hy, eq_true hp]
  exact ⟨by rfl, by rfl, by rfl, _, rfl, hq⟩
set_option maxHeartbeats 4000000 in
theorem get_s3 (A : XE E) (e271 : E 271 = some (.code c271)) (e272 : E 272 = some (.code c272)) {op : Int} {R : List (List D)} {a b c d : Option Int} (hz : nz d) {Q : Ex → St → Prop} (hq : LX E getLoop ⟨[4, 8, 9], [], [], [], [], true⟩ 3 (sGet 4 op R a b c d) Q) :
  LX E getLoop ⟨[4, 8, 9], [], [], [], [], true⟩ 3 (sGet 3 op R a b c d) Q := by
 have wA : IntKind.i64.wrap (97 + 3) = 100 := rfl
 have wB : IntKind.u8.wrap 100 = 100 := rfl
 have wi : IntKind.i64.wrap (3 + 1) = 4 := rfl
 have y1 : (3 : Int) < 4 := by decide
 cases d with
 | none =>
  have F := getF (x := UInt8.ofNat 100) A e271 e272 (get3 a b c none) (gd_bad (by decide)) (has3 a b c none)
  refine lx_step ?_
  simp only [evAll, ↓reduceIte, Nat.reduceEqDiff, Nat.reduceAdd, Nat.reduceLeDiff, Nat.reduceLT, Int.reduceLT, Int.reduceLE, loopQ, Int.reduceToNat, Nat.reduceMul, getLoop, c261, eq_true y1, wA, wB, wi, F.s, F.m, F.g, F.h, F.vg, F.vh, gi, Option.getD_none, Option.map_none, badG, gF, boolG, Option.isSome_none]
  exact ⟨by rfl, by rfl, by rfl, _, rfl, hq⟩
 | some y =>
  have hp : 0 < y := hz y rfl
  have hy : ¬ y = 0 := by omega
  have F := getF (x := UInt8.ofNat 100) A e271 e272 (get3 a b c (some y)) (gd_int y) (has3 a b c (some y))
  refine lx_step ?_
  simp only [evAll, ↓reduceIte, Nat.reduceEqDiff, Nat.reduceAdd, Nat.reduceLeDiff, Nat.reduceLT, Int.reduceLE, loopQ, Int.reduceToNat, Nat.reduceMul, getLoop, c261, eq_true y1, wA, wB, wi, F.s, F.m, F.g, F.h, F.vg, F.vh, gi, Option.getD_some, Option.map_some, intG, gF, boolG, Option.isSome_some, hy, eq_true hp]
  exact ⟨by rfl, by rfl, by rfl, _, rfl, hq⟩
theorem get_end {op : Int} {R : List (List D)} {a b c d : Option Int} {Q : Ex → St → Prop} (hq : ∀ tm, Q (.exit 2) ⟨tm, [bxP op R, bx4 a b c d, bxN (gvalRows (envR a b c d))]⟩) :
  LX E getLoop ⟨[4, 8, 9], [], [], [], [], true⟩ 3 (sGet 4 op R a b c d) Q := by
 refine lx_step ?_
 simp only [evAll, ↓reduceIte, Nat.reduceEqDiff, Nat.reduceAdd, Nat.reduceLeDiff, Nat.reduceLT, Int.reduceLT, loopQ, getLoop, c261]
 exact hq _
theorem ty_p8 {P : Program} {t e c : TypeId} (hu : P.underlying t = some (.slice e)) (he : P.underlying e = some (.array 2 c)) (hc : P.underlying c = some (.int .u8)) (h2 : P.cellsOf e = 2) (h1 : P.cellsOf c = 1) : ∀ {f : Nat} {ds : List D}, tyD P f t ds → ∃ l, ds = [.l 2 (p8Row l)]
 | 0, ds, h => h.elim
 | f + 1, ds, h => by
  simp only [tyD, hu, h2] at h
  obtain ⟨xs, rfl, _, h3⟩ := h
  have : ∀ (xs : List (List D)), (∀ r ∈ xs, r.length = 2 ∧ tyD P f e r) → ∃ l, xs = p8Row l := by
   intro xs
   induction xs with
   | nil => intro _; exact ⟨[], rfl⟩
   | cons r rs ih =>
    intro h
    obtain ⟨l, rfl⟩ := ih (fun r hr => h r (by simp [hr]))
    obtain ⟨hl, hr⟩ := h r (by simp)
    cases f with
    | zero => exact hr.elim
    | succ f =>
     simp only [tyD, he, h1] at hr
     match r, hl with
     | [x, y], _ =>
      have k0 : tyD P f c [x] := hr.2 0 (by omega)
      have k1 : tyD P f c [y] := hr.2 1 (by omega)
      obtain ⟨cx, hx⟩ := ty_u8 hc k0
      obtain ⟨cy, hy⟩ := ty_u8 hc k1
      cases hx; cases hy
      exact ⟨(cx, cy) :: l, rfl⟩
  obtain ⟨l, rfl⟩ := this xs h3
  exact ⟨l, rfl⟩
theorem maps_law (A : XE E) (e110 : E 110 = some (.code c110)) (e113 : E 113 = some (.code c113)) (e115 : E 115 = some (.code c115)) (e131 : E 131 = some (.code c131)) (e261 : E 261 = some (.code c261)) (e271 : E 271 = some (.code c271)) (e272 : E 272 = some (.code c272)) (hbeg : lcall E 264 [] [] = some (.d (.b true), [])) (l : List (UInt8 × UInt8)) :
  lcall E 261 [.d (.l 2 (p8Row l))] [] = some (.d (.b true), []) := by
 have C := ev_of A
 refine call_q e261 ?_
 by_cases h1 : (11 : Int) < l.length
 ·simp only [evAll, ↓reduceIte, Nat.reduceEqDiff, Nat.reduceAdd, Nat.reduceLeDiff, reduceCtorEq, c261, hbeg, p8_len, eq_true h1]
 simp only [evAll, ↓reduceIte, Nat.reduceEqDiff, Nat.reduceAdd, Nat.reduceLeDiff, reduceCtorEq, c261, hbeg, p8_len, h1]
 refine put_loop (by omega) e271 e272 (fun tm op xs a b c d hI t3 t4 t5 => ?_) 10 0 22 [] none none none none rfl put_start
 have kv : lcall E 269 [cellL op (xs.map Exp.row), .d (.l 1 []), .d (.l 1 [])] [] = some ((evalF [] [] (doE op xs)).arg, []) := Eval_ok C gdR_nil hI.gd
 rw [hI.ev] at kv
 have hm := rmay e110 e113 e115 e131 (map_gd a b c d)
 have hl : (gvalRows (mapG a b c d).l).length = cnt a b c d := by rw [gvalRows_length]; rfl
 have kv' : lcall E 269 [cellL op (xs.map Exp.row), .d (.l 1 []), .d (.l 1 [])] [] = some (.agg [.d (.i .i64 6), .d (.i .i64 0), .d (.s []), .d (.l 4 (gvalRows (envR a b c d)))], []) := kv
 have hm' : lcall E 110 [.agg [.d (.i .i64 6), .d (.i .i64 0), .d (.s []), .d (.l 4 (gvalRows (envR a b c d)))]] [] = some (.d (.b true), []) := hm
 have hl' : (gvalRows (envR a b c d)).length = cnt a b c d := hl
 simp only [evAll, ↓reduceIte, Nat.reduceEqDiff, Nat.reduceAdd, Nat.reduceLeDiff, t3, t4, t5, kv', hm', hl']
 refine get_s0 A e271 e272 hI.na (get_s1 A e271 e272 hI.nb (get_s2 A e271 e272 hI.nc (get_s3 A e271 e272 hI.nd (get_end fun tm => ?_))))
 simp only [evAll, ↓reduceIte, Nat.reduceAdd]
end Ab.Vx
