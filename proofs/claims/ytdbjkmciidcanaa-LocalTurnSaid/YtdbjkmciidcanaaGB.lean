/-
 GB: A3,A4,A5,A6,A7,A8,A9,P1,P2,P3,P4,P5,P6,P7,P8,P9,PL1,Q0,HCode,H1,H2,HX,T1,T2,T3,TUCode,T4.
-/
import Derived.Test.YtdbjkmciidcanaaGA
import Derived.Test.YtdbjkmciidcanaaPack5
import Derived.Test.YtdbjkmciidcanaaPack4
namespace Ab
open Go
set_option linter.unusedVariables false
set_option linter.unusedSimpArgs false
set_option maxRecDepth 100000
variable {E : Nat → Option Fn}
def isNum (v : GVal) : Prop := v.kind = 1 ∧ v.s = [] ∧ v.l = []
theorem size_num (A : AE E) {v : GVal} (h : isNum v) : lcall E 112 [v.arg] [] = some (.d (.i .i64 1), []) := by
 obtain ⟨h1, h2, h3⟩ := h
 have z : ((0 : Nat) : Int) = 0 := rfl
 have q : (0 : Int).tdiv 16 = 0 := rfl
 have w0 : IntKind.i64.wrap 0 = 0 := rfl
 have w1 : IntKind.i64.wrap 1 = 1 := rfl
 refine call_q A.e112 ?_
 simp only [evAll, Nat.reduceBEq, ↓reduceIte, Nat.reduceEqDiff, Nat.reduceAdd, Nat.reduceLeDiff, Nat.reduceSub, Nat.reduceLT, reduceCtorEq, Int.reduceEq, Int.reduceLT, Int.reduceLE, Int.reduceNeg, loopQ, Int.reduceToNat, Nat.reduceMul, List.range'_one, c112, h2, h3, List.length_nil, gvalRows_eq, List.map_nil, z, q, w0, w1, Int.reduceAdd]
 refine lx_step ?_
 simp only [evAll, Nat.reduceBEq, ↓reduceIte, Nat.reduceEqDiff, Nat.reduceAdd, Nat.reduceLeDiff, Nat.reduceSub, Nat.reduceLT, reduceCtorEq, Int.reduceEq, Int.reduceLT, Int.reduceLE, Int.reduceNeg, loopQ, Int.reduceToNat, Nat.reduceMul, List.range'_one, c112, Int.lt_irrefl]
theorem may_num (A : AE E) {v : GVal} (h : isNum v) : lcall E 111 [v.arg] [] = some (.d (.b true), []) := by
 have c1 := size_num A h
 obtain ⟨h1, h2, h3⟩ := h
 have c2 : lcall E 139 [v.arg] [] = some (.d (.b true), []) := by
  refine call_q A.e139 ?_
  simp only [evAll, Nat.reduceBEq, ↓reduceIte, Nat.reduceEqDiff, Nat.reduceAdd, Nat.reduceLeDiff, Nat.reduceSub, Nat.reduceLT, reduceCtorEq, Int.reduceEq, Int.reduceLT, Int.reduceLE, Int.reduceNeg, loopQ, Int.reduceToNat, Nat.reduceMul, List.range'_one, c139, h1]
 have c3 : lcall E 140 [v.arg] [] = some (.d (.b true), []) := by
  refine call_q A.e140 ?_
  simp only [evAll, Nat.reduceBEq, ↓reduceIte, Nat.reduceEqDiff, Nat.reduceAdd, Nat.reduceLeDiff, Nat.reduceSub, Nat.reduceLT, reduceCtorEq, Int.reduceEq, Int.reduceLT, Int.reduceLE, Int.reduceNeg, loopQ, Int.reduceToNat, Nat.reduceMul, List.range'_one, c140, h1, h2, h3, gvalRows_eq, List.map_nil, List.length_nil, Int.cast_ofNat_Int]
 have c4 : lcall E 141 [.d (.l 4 []), .d (.f 142 [] [])] [] = some (.d (.b false), []) := by
  have := cont_ok (E := E) (key := 141) (ki := 155) (sz := 4) (ag := true) A.e141 A.e155 (fun h => by cases h) (l := ([] : List GVal)) (enc := GVal.row) (p := fun _ => false) (k := 142) (c := []) (by simp) (by simp) (by simp)
  exact this
 have c5 : lcall E 125 [v.arg] [] = some (.d (.b true), []) := by
  refine call_q A.e125 ?_
  have hk : (1 : Int) != 3 := rfl
  simp only [GVal.arg, h1, h2, h3, gvalRows_eq, List.map_nil] at c2 c3
  simp only [evAll, Nat.reduceBEq, ↓reduceIte, Nat.reduceEqDiff, Nat.reduceAdd, Nat.reduceLeDiff, Nat.reduceSub, Nat.reduceLT, reduceCtorEq, Int.reduceEq, Int.reduceLT, Int.reduceLE, Int.reduceNeg, loopQ, Int.reduceToNat, Nat.reduceMul, List.range'_one, c125, c2, c3, c4, h1, h2, h3, gvalRows_eq, List.map_nil, hk]
 refine call_q A.e111 ?_
 simp only [evAll, Nat.reduceBEq, ↓reduceIte, Nat.reduceEqDiff, Nat.reduceAdd, Nat.reduceLeDiff, Nat.reduceSub, Nat.reduceLT, reduceCtorEq, Int.reduceEq, Int.reduceLT, Int.reduceLE, Int.reduceNeg, loopQ, Int.reduceToNat, Nat.reduceMul, List.range'_one, c111, c1, c5]
def letterB (c : UInt8) : Bool := decide ((97 : Int) ≤ (c.toNat : Int)) && decide ((c.toNat : Int) ≤ 122)
def badAt (i : Nat) (c : UInt8) : Bool := !letterB c && (decide (i = 0) || (decide ((c.toNat : Int) < 48) || decide ((c.toNat : Int) > 57)))
def goodFrom : List UInt8 → Nat → Bool
 | [], _ => true
 | c :: r, i => !badAt i c && goodFrom r (i + 1)
def nameF (s : List UInt8) : Bool := decide (1 ≤ s.length) && (decide (s.length ≤ 8) && goodFrom s 0)
def nameLoop : CCode := match c220.body with
 | .seq _ (.seq _ (.seq (.seq _ (.block _ (.loop _ c))) _)) => c
 | _ => .skip
theorem name_loop {s : List UInt8} (hs : s.length ≤ 8) {Q : Ex → St → Prop} (hno : ∀ tm hp, goodFrom s 0 = false → look tm 2 = .d (.b false) → Q .ret ⟨tm, hp⟩) (hyes : ∀ tm, goodFrom s 0 = true → Q (.exit 0) ⟨tm, []⟩) :
  ∀ (m i : Nat), i + m = s.length → goodFrom s 0 = goodFrom (s.drop i) i →
  LX E nameLoop ⟨[0, 14, 15], [], [], [], [], true⟩ 0 ⟨[(0, .d (.s s)), (14, .d (.i .i64 s.length)), (15, .d (.i .i64 i))], []⟩ Q := by
 intro m
 induction m with
 | zero =>
  intro i hi he
  have hn : ¬ ((i : Int) < s.length) := by omega
  rw [List.drop_eq_nil_of_le (by omega)] at he
  refine lx_step ?_
  simp only [evAll, Nat.reduceBEq, ↓reduceIte, Nat.reduceEqDiff, Nat.reduceAdd, Nat.reduceLeDiff, Nat.reduceSub, Nat.reduceLT, reduceCtorEq, Int.reduceEq, Int.reduceLT, Int.reduceLE, Int.reduceNeg, loopQ, Int.reduceToNat, Nat.reduceMul, List.range'_one, nameLoop, c220, hn]
  exact hyes _ he
 | succ m ih =>
  intro i hi he
  have hy : (i : Int) < s.length := by omega
  have la : i < s.length := by omega
  have h0 : (0 : Int) ≤ i := by omega
  have ga : s[i]? = some s[i] := List.getElem?_eq_getElem la
  have w : IntKind.i64.wrap ((i : Int) + 1) = ((i + 1 : Nat) : Int) := by rw [i64w (by omega) (by omega)]; omega
  rw [List.drop_eq_getElem_cons la] at he
  simp only [goodFrom] at he
  generalize s[i] = c at *
  have fin1 : badAt i c = true → ∀ tm hp, look tm 2 = .d (.b false) → Q .ret ⟨tm, hp⟩ := fun hb tm hp h2 => hno tm hp (by rw [he, hb]; rfl) h2
  have go1 : badAt i c = false → LX E nameLoop ⟨[0, 14, 15], [], [], [], [], true⟩ 0 ⟨[(0, .d (.s s)), (14, .d (.i .i64 s.length)), (15, .d (.i .i64 ((i + 1 : Nat) : Int)))], []⟩ Q := fun hb => ih (i + 1) (by omega) (by rw [he, hb]; rfl)
  refine lx_step ?_
  by_cases a1 : (c.toNat : Int) ≥ 97
  ·by_cases a2 : (c.toNat : Int) ≤ 122
   ·have hb : badAt i c = false := by simp [badAt, letterB]; omega
    simp only [evAll, Nat.reduceBEq, ↓reduceIte, Nat.reduceEqDiff, Nat.reduceAdd, Nat.reduceLeDiff, Nat.reduceSub, Nat.reduceLT, reduceCtorEq, Int.reduceEq, Int.reduceLT, Int.reduceLE, Int.reduceNeg, loopQ, Int.reduceToNat, Nat.reduceMul, List.range'_one, nameLoop, c220, eq_true hy, h0, ga, w, eq_true a1, eq_true a2]
    exact ⟨_, rfl, go1 hb⟩
   ·have hl : letterB c = false := by simp [letterB]; omega
    have b1 : ¬ (c.toNat : Int) < 48 := by omega
    have b2 : (c.toNat : Int) > 57 := by omega
    have hb : badAt i c = true := by simp [badAt, hl]; omega
    by_cases i0 : (i : Int) = 0
    ·simp only [evAll, Nat.reduceBEq, ↓reduceIte, Nat.reduceEqDiff, Nat.reduceAdd, Nat.reduceLeDiff, Nat.reduceSub, Nat.reduceLT, reduceCtorEq, Int.reduceEq, Int.reduceLT, Int.reduceLE, Int.reduceNeg, loopQ, Int.reduceToNat, Nat.reduceMul, List.range'_one, nameLoop, c220, eq_true hy, h0, ga, w, eq_true a1, a2, eq_true i0]
     refine fin1 hb _ _ ?_
     simp only [evAll, Nat.reduceBEq, ↓reduceIte, Nat.reduceEqDiff, Nat.reduceAdd, Nat.reduceLeDiff, Nat.reduceSub, Nat.reduceLT, reduceCtorEq, Int.reduceEq, Int.reduceLT, Int.reduceLE, Int.reduceNeg, loopQ, Int.reduceToNat, Nat.reduceMul, List.range'_one]
    ·simp only [evAll, Nat.reduceBEq, ↓reduceIte, Nat.reduceEqDiff, Nat.reduceAdd, Nat.reduceLeDiff, Nat.reduceSub, Nat.reduceLT, reduceCtorEq, Int.reduceEq, Int.reduceLT, Int.reduceLE, Int.reduceNeg, loopQ, Int.reduceToNat, Nat.reduceMul, List.range'_one, nameLoop, c220, eq_true hy, h0, ga, w, eq_true a1, a2, i0, b1, eq_true b2]
     refine fin1 hb _ _ ?_
     simp only [evAll, Nat.reduceBEq, ↓reduceIte, Nat.reduceEqDiff, Nat.reduceAdd, Nat.reduceLeDiff, Nat.reduceSub, Nat.reduceLT, reduceCtorEq, Int.reduceEq, Int.reduceLT, Int.reduceLE, Int.reduceNeg, loopQ, Int.reduceToNat, Nat.reduceMul, List.range'_one]
  ·have hl : letterB c = false := by simp [letterB]; omega
   by_cases i0 : (i : Int) = 0
   ·have hb : badAt i c = true := by simp [badAt, hl]; omega
    simp only [evAll, Nat.reduceBEq, ↓reduceIte, Nat.reduceEqDiff, Nat.reduceAdd, Nat.reduceLeDiff, Nat.reduceSub, Nat.reduceLT, reduceCtorEq, Int.reduceEq, Int.reduceLT, Int.reduceLE, Int.reduceNeg, loopQ, Int.reduceToNat, Nat.reduceMul, List.range'_one, nameLoop, c220, eq_true hy, h0, ga, w, a1, eq_true i0]
    refine fin1 hb _ _ ?_
    simp only [evAll, Nat.reduceBEq, ↓reduceIte, Nat.reduceEqDiff, Nat.reduceAdd, Nat.reduceLeDiff, Nat.reduceSub, Nat.reduceLT, reduceCtorEq, Int.reduceEq, Int.reduceLT, Int.reduceLE, Int.reduceNeg, loopQ, Int.reduceToNat, Nat.reduceMul, List.range'_one]
   ·by_cases b1 : (c.toNat : Int) < 48
    ·have hb : badAt i c = true := by simp [badAt, hl]; omega
     simp only [evAll, Nat.reduceBEq, ↓reduceIte, Nat.reduceEqDiff, Nat.reduceAdd, Nat.reduceLeDiff, Nat.reduceSub, Nat.reduceLT, reduceCtorEq, Int.reduceEq, Int.reduceLT, Int.reduceLE, Int.reduceNeg, loopQ, Int.reduceToNat, Nat.reduceMul, List.range'_one, nameLoop, c220, eq_true hy, h0, ga, w, a1, i0, eq_true b1]
     refine fin1 hb _ _ ?_
     simp only [evAll, Nat.reduceBEq, ↓reduceIte, Nat.reduceEqDiff, Nat.reduceAdd, Nat.reduceLeDiff, Nat.reduceSub, Nat.reduceLT, reduceCtorEq, Int.reduceEq, Int.reduceLT, Int.reduceLE, Int.reduceNeg, loopQ, Int.reduceToNat, Nat.reduceMul, List.range'_one]
    ·by_cases b2 : (c.toNat : Int) > 57
     ·have hb : badAt i c = true := by simp [badAt, hl]; omega
      simp only [evAll, Nat.reduceBEq, ↓reduceIte, Nat.reduceEqDiff, Nat.reduceAdd, Nat.reduceLeDiff, Nat.reduceSub, Nat.reduceLT, reduceCtorEq, Int.reduceEq, Int.reduceLT, Int.reduceLE, Int.reduceNeg, loopQ, Int.reduceToNat, Nat.reduceMul, List.range'_one, nameLoop, c220, eq_true hy, h0, ga, w, a1, i0, b1, eq_true b2]
      refine fin1 hb _ _ ?_
      simp only [evAll, Nat.reduceBEq, ↓reduceIte, Nat.reduceEqDiff, Nat.reduceAdd, Nat.reduceLeDiff, Nat.reduceSub, Nat.reduceLT, reduceCtorEq, Int.reduceEq, Int.reduceLT, Int.reduceLE, Int.reduceNeg, loopQ, Int.reduceToNat, Nat.reduceMul, List.range'_one]
     ·have hb : badAt i c = false := by simp [badAt, hl]; omega
      simp only [evAll, Nat.reduceBEq, ↓reduceIte, Nat.reduceEqDiff, Nat.reduceAdd, Nat.reduceLeDiff, Nat.reduceSub, Nat.reduceLT, reduceCtorEq, Int.reduceEq, Int.reduceLT, Int.reduceLE, Int.reduceNeg, loopQ, Int.reduceToNat, Nat.reduceMul, List.range'_one, nameLoop, c220, eq_true hy, h0, ga, w, a1, i0, b1, b2]
      exact ⟨_, rfl, go1 hb⟩
theorem name_ok (A : AE E) (s : List UInt8) : lcall E 220 [.d (.s s)] [] = some (.d (.b (nameF s)), []) := by
 refine call_q A.e220 ?_
 unfold nameF
 by_cases h1 : (s.length : Int) < 1
 ·have h1' : ¬ 1 ≤ s.length := by omega
  simp only [evAll, Nat.reduceBEq, ↓reduceIte, Nat.reduceEqDiff, Nat.reduceAdd, Nat.reduceLeDiff, Nat.reduceSub, Nat.reduceLT, reduceCtorEq, Int.reduceEq, Int.reduceLT, Int.reduceLE, Int.reduceNeg, loopQ, Int.reduceToNat, Nat.reduceMul, List.range'_one, c220, eq_true h1, h1', decide_false]
 ·have h1' : 1 ≤ s.length := by omega
  by_cases h2 : (s.length : Int) > 8
  ·have h2' : ¬ s.length ≤ 8 := by omega
   simp only [evAll, Nat.reduceBEq, ↓reduceIte, Nat.reduceEqDiff, Nat.reduceAdd, Nat.reduceLeDiff, Nat.reduceSub, Nat.reduceLT, reduceCtorEq, Int.reduceEq, Int.reduceLT, Int.reduceLE, Int.reduceNeg, loopQ, Int.reduceToNat, Nat.reduceMul, List.range'_one, c220, h1, eq_true h1', eq_true h2, h2', decide_false, decide_true]
  ·have h2' : s.length ≤ 8 := by omega
   simp only [evAll, Nat.reduceBEq, ↓reduceIte, Nat.reduceEqDiff, Nat.reduceAdd, Nat.reduceLeDiff, Nat.reduceSub, Nat.reduceLT, reduceCtorEq, Int.reduceEq, Int.reduceLT, Int.reduceLE, Int.reduceNeg, loopQ, Int.reduceToNat, Nat.reduceMul, List.range'_one, c220, h1, eq_true h1', h2, eq_true h2', decide_true]
   refine name_loop h2' (fun tm hp hg h2 => ?_) (fun tm hg => ?_) s.length 0 (by omega) rfl
   ·simp only [evAll, Nat.reduceBEq, ↓reduceIte, Nat.reduceEqDiff, Nat.reduceAdd, Nat.reduceLeDiff, Nat.reduceSub, Nat.reduceLT, reduceCtorEq, Int.reduceEq, Int.reduceLT, Int.reduceLE, Int.reduceNeg, loopQ, Int.reduceToNat, Nat.reduceMul, List.range'_one, h2, hg]
   ·simp only [evAll, Nat.reduceBEq, ↓reduceIte, Nat.reduceEqDiff, Nat.reduceAdd, Nat.reduceLeDiff, Nat.reduceSub, Nat.reduceLT, reduceCtorEq, Int.reduceEq, Int.reduceLT, Int.reduceLE, Int.reduceNeg, loopQ, Int.reduceToNat, Nat.reduceMul, List.range'_one, hg]
theorem names1_ok (A : AE E) (s : List UInt8) : lcall E 219 [.d (.s s)] [] = some (.d (.b (!nameF s)), []) := by
 have c1 := name_ok A s
 refine call_q A.e219 ?_
 simp only [evAll, Nat.reduceBEq, ↓reduceIte, Nat.reduceEqDiff, Nat.reduceAdd, Nat.reduceLeDiff, Nat.reduceSub, Nat.reduceLT, reduceCtorEq, Int.reduceEq, Int.reduceLT, Int.reduceLE, Int.reduceNeg, loopQ, Int.reduceToNat, Nat.reduceMul, List.range'_one, c219, c1]
def placeS (x : List UInt8) : List (List UInt8) → Nat
 | [] => 0
 | y :: r => if x = y then 0 else placeS x r + 1
def kvS (x : List UInt8) : List D × V := ([.s x], .d (.b true))
theorem mapAt_S (x : List UInt8) : ∀ (l : List (List UInt8)), mapAt [.s] [.s x] (l.map kvS) = some (placeS x l)
 | [] => rfl
 | y :: r => by
  simp only [List.map_cons, kvS, mapAt, placeS]
  have h : eqDs [.s] [.s x] [.s y] = some (x == y && true) := rfl
  rw [h]
  by_cases e : x = y
  ·simp [e]
  ·have := mapAt_S x r
   have hb : (x == y) = false := by simpa using e
   simp [hb, this, e]
theorem placeS_in {x : List UInt8} : ∀ {l : List (List UInt8)}, x ∈ l → (l.map kvS)[placeS x l]? = some (kvS x)
 | y :: r, h => by
  simp only [placeS]
  by_cases e : x = y
  ·simp [e]
  ·rw [if_neg e]
   have := placeS_in (l := r) (by rcases List.mem_cons.1 h with h | h; exact absurd h e; exact h)
   simpa using this
theorem placeS_out {x : List UInt8} : ∀ {l : List (List UInt8)}, x ∉ l → placeS x l = l.length
 | [], _ => rfl
 | y :: r, h => by
  simp only [placeS]
  rw [if_neg (fun e => h (by rw [e]; exact List.mem_cons_self)), placeS_out (fun hr => h (List.mem_cons_of_mem _ hr))]
  rfl
def unlikeB : List (List UInt8) → List (List UInt8) → Bool
 | _, [] => true
 | seen, x :: r => if x ∈ seen then false else unlikeB (seen ++ [x]) r
def unlikeLoop : CCode := match c217.body with
 | .seq _ (.seq _ (.seq (.seq _ (.block _ (.loop _ c))) _)) => c
 | _ => .skip
theorem unlike_loop {l : List (List UInt8)} (hl : l.length ≤ 100000) {Q : Ex → St → Prop} (hno : ∀ tm hp, unlikeB [] l = false → look tm 2 = .d (.b false) → Q .ret ⟨tm, hp⟩) (hyes : ∀ tm hp, unlikeB [] l = true → Q (.exit 0) ⟨tm, hp⟩) :
  ∀ (m i : Nat) (seen : List (List UInt8)), i + m = l.length → unlikeB [] l = unlikeB seen (l.drop i) →
  LX E unlikeLoop ⟨[3, 7, 8, 9], [], [], [], [], true⟩ 1 ⟨[(3, .map 0), (7, .d (.l 1 (l.map strRow))), (8, .d (.i .i64 l.length)), (9, .d (.i .i64 i))], [some (.map (seen.map kvS))]⟩ Q := by
 intro m
 induction m with
 | zero =>
  intro i seen hi he
  have hn : ¬ ((i : Int) < l.length) := by omega
  rw [List.drop_eq_nil_of_le (by omega)] at he
  refine lx_step ?_
  simp only [evAll, Nat.reduceBEq, ↓reduceIte, Nat.reduceEqDiff, Nat.reduceAdd, Nat.reduceLeDiff, Nat.reduceSub, Nat.reduceLT, reduceCtorEq, Int.reduceEq, Int.reduceLT, Int.reduceLE, Int.reduceNeg, loopQ, Int.reduceToNat, Nat.reduceMul, List.range'_one, unlikeLoop, c217, hn]
  exact hyes _ _ he
 | succ m ih =>
  intro i seen hi he
  have hy : (i : Int) < l.length := by omega
  have la : i < l.length := by omega
  have h0 : (0 : Int) ≤ i := by omega
  have ga : (l.map strRow)[i]? = some [.s l[i]] := by rw [List.getElem?_map, List.getElem?_eq_getElem la]; rfl
  have w : IntKind.i64.wrap ((i : Int) + 1) = ((i + 1 : Nat) : Int) := by rw [i64w (by omega) (by omega)]; omega
  rw [List.drop_eq_getElem_cons la] at he
  simp only [unlikeB] at he
  generalize l[i] = x at *
  have ma := mapAt_S x seen
  refine lx_step ?_
  by_cases hx : x ∈ seen
  ·rw [if_pos hx] at he
   have pk := placeS_in hx
   simp only [evAll, Nat.reduceBEq, ↓reduceIte, Nat.reduceEqDiff, Nat.reduceAdd, Nat.reduceLeDiff, Nat.reduceSub, Nat.reduceLT, reduceCtorEq, Int.reduceEq, Int.reduceLT, Int.reduceLE, Int.reduceNeg, loopQ, Int.reduceToNat, Nat.reduceMul, List.range'_one, unlikeLoop, c217, eq_true hy, h0, ga, ma, pk, kvS, ofDs, List.map_cons, List.map_nil, List.length_cons, List.length_nil]
   refine hno _ _ he ?_
   simp only [evAll, Nat.reduceBEq, ↓reduceIte, Nat.reduceEqDiff, Nat.reduceAdd, Nat.reduceLeDiff, Nat.reduceSub, Nat.reduceLT, reduceCtorEq, Int.reduceEq, Int.reduceLT, Int.reduceLE, Int.reduceNeg, loopQ, Int.reduceToNat, Nat.reduceMul, List.range'_one]
  ·rw [if_neg hx] at he
   have pk := placeS_out hx
   rw [pk] at ma
   have pn : (seen.map kvS)[seen.length]? = none := List.getElem?_eq_none (by simp)
   have pp : putKv (seen.map kvS) [.s x] (.d (.b true)) seen.length = (seen ++ [x]).map kvS := by
    unfold putKv
    rw [if_neg (by simp)]
    simp [kvS]
   simp only [evAll, Nat.reduceBEq, ↓reduceIte, Nat.reduceEqDiff, Nat.reduceAdd, Nat.reduceLeDiff, Nat.reduceSub, Nat.reduceLT, reduceCtorEq, Int.reduceEq, Int.reduceLT, Int.reduceLE, Int.reduceNeg, loopQ, Int.reduceToNat, Nat.reduceMul, List.range'_one, unlikeLoop, c217, eq_true hy, h0, ga, ma, pn, pp, w, ofDs, List.map_cons, List.map_nil, List.length_cons, List.length_nil]
   have hk : ∀ (l : List (List UInt8)), underKvs 1 (l.map kvS) = true := fun l => by
    induction l with
    | nil => rfl
    | cons y r ih2 => simp only [List.map_cons, kvS, underKvs, V.under, Bool.true_and]; simpa [kvS] using ih2
   have hn : ∀ (h : List (Option Obj)) (l : List (List UInt8)), (l.map kvS).map (fun p => (p.1, normV h p.2)) = l.map kvS := fun h l => by
    rw [List.map_map]; rfl
   rw [hk, hn]
   exact ⟨_, rfl, ih (i + 1) (seen ++ [x]) (by omega) he⟩
theorem unlike_ok (A : AE E) {l : List (List UInt8)} (hl : l.length ≤ 100000) : lcall E 217 [.d (.l 1 (l.map strRow))] [] = some (.d (.b (unlikeB [] l)), []) := by
 refine call_q A.e217 ?_
 simp only [evAll, Nat.reduceBEq, ↓reduceIte, Nat.reduceEqDiff, Nat.reduceAdd, Nat.reduceLeDiff, Nat.reduceSub, Nat.reduceLT, reduceCtorEq, Int.reduceEq, Int.reduceLT, Int.reduceLE, Int.reduceNeg, loopQ, Int.reduceToNat, Nat.reduceMul, List.range'_one, c217, List.length_map]
 refine unlike_loop hl (fun tm hp h h2 => ?_) (fun tm hp h => ?_) l.length 0 [] (by omega) rfl
 ·simp only [evAll, Nat.reduceBEq, ↓reduceIte, Nat.reduceEqDiff, Nat.reduceAdd, Nat.reduceLeDiff, Nat.reduceSub, Nat.reduceLT, reduceCtorEq, Int.reduceEq, Int.reduceLT, Int.reduceLE, Int.reduceNeg, loopQ, Int.reduceToNat, Nat.reduceMul, List.range'_one, h2, h]
 ·simp only [evAll, Nat.reduceBEq, ↓reduceIte, Nat.reduceEqDiff, Nat.reduceAdd, Nat.reduceLeDiff, Nat.reduceSub, Nat.reduceLT, reduceCtorEq, Int.reduceEq, Int.reduceLT, Int.reduceLE, Int.reduceNeg, loopQ, Int.reduceToNat, Nat.reduceMul, List.range'_one, h]
def namesF (l : List (List UInt8)) : Bool := unlikeB [] l && !l.any fun s => !nameF s
theorem names_ok (A : AE E) {l : List (List UInt8)} (hl : l.length ≤ 100000) : lcall E 202 [.d (.l 1 (l.map strRow))] [] = some (.d (.b (namesF l)), []) := by
 have c1 := unlike_ok A hl
 have c2 := cont_ok (E := E) (key := 218) (ki := 233) (sz := 1) (ag := false) A.e218 A.e233 (fun _ => rfl) (l := l) (enc := strRow) (p := fun s => !nameF s) (k := 219) (c := []) (by omega) (fun _ _ => rfl) (fun s _ => names1_ok A s)
 refine call_q A.e202 ?_
 unfold namesF
 cases h : unlikeB [] l
 ·rw [h] at c1
  simp only [evAll, Nat.reduceBEq, ↓reduceIte, Nat.reduceEqDiff, Nat.reduceAdd, Nat.reduceLeDiff, Nat.reduceSub, Nat.reduceLT, reduceCtorEq, Int.reduceEq, Int.reduceLT, Int.reduceLE, Int.reduceNeg, loopQ, Int.reduceToNat, Nat.reduceMul, List.range'_one, c202, c1]
 ·rw [h] at c1
  simp only [evAll, Nat.reduceBEq, ↓reduceIte, Nat.reduceEqDiff, Nat.reduceAdd, Nat.reduceLeDiff, Nat.reduceSub, Nat.reduceLT, reduceCtorEq, Int.reduceEq, Int.reduceLT, Int.reduceLE, Int.reduceNeg, loopQ, Int.reduceToNat, Nat.reduceMul, List.range'_one, c202, c1, c2]
theorem within1_ok (A : AE E) {xs : List (List D)} (hl : xs.length ≤ 100000) (m : Int) : lcall E 198 [.d (.l 3 xs), .d (.i .i64 m)] [] = some (.d (.b (decide (1 ≤ xs.length) && decide ((xs.length : Int) ≤ m))), []) := by
 refine call_q A.e198 ?_
 by_cases h : (xs.length : Int) ≥ 1
 ·have h' : 1 ≤ xs.length := by omega
  simp only [evAll, Nat.reduceBEq, ↓reduceIte, Nat.reduceEqDiff, Nat.reduceAdd, Nat.reduceLeDiff, Nat.reduceSub, Nat.reduceLT, reduceCtorEq, Int.reduceEq, Int.reduceLT, Int.reduceLE, Int.reduceNeg, loopQ, Int.reduceToNat, Nat.reduceMul, List.range'_one, c198, eq_true h, eq_true h', decide_true]
 ·have h' : ¬ 1 ≤ xs.length := by omega
  simp only [evAll, Nat.reduceBEq, ↓reduceIte, Nat.reduceEqDiff, Nat.reduceAdd, Nat.reduceLeDiff, Nat.reduceSub, Nat.reduceLT, reduceCtorEq, Int.reduceEq, Int.reduceLT, Int.reduceLE, Int.reduceNeg, loopQ, Int.reduceToNat, Nat.reduceMul, List.range'_one, c198, h, h', decide_false]
theorem within2_ok (A : AE E) {xs : List (List D)} (hl : xs.length ≤ 100000) (m : Int) : lcall E 199 [.d (.l 3 xs), .d (.i .i64 m)] [] = some (.d (.b (decide (1 ≤ xs.length) && decide ((xs.length : Int) ≤ m))), []) := by
 refine call_q A.e199 ?_
 by_cases h : (xs.length : Int) ≥ 1
 ·have h' : 1 ≤ xs.length := by omega
  simp only [evAll, Nat.reduceBEq, ↓reduceIte, Nat.reduceEqDiff, Nat.reduceAdd, Nat.reduceLeDiff, Nat.reduceSub, Nat.reduceLT, reduceCtorEq, Int.reduceEq, Int.reduceLT, Int.reduceLE, Int.reduceNeg, loopQ, Int.reduceToNat, Nat.reduceMul, List.range'_one, c199, eq_true h, eq_true h', decide_true]
 ·have h' : ¬ 1 ≤ xs.length := by omega
  simp only [evAll, Nat.reduceBEq, ↓reduceIte, Nat.reduceEqDiff, Nat.reduceAdd, Nat.reduceLeDiff, Nat.reduceSub, Nat.reduceLT, reduceCtorEq, Int.reduceEq, Int.reduceLT, Int.reduceLE, Int.reduceNeg, loopQ, Int.reduceToNat, Nat.reduceMul, List.range'_one, c199, h, h', decide_false]
theorem within3_ok (A : AE E) {xs : List (List D)} (hl : xs.length ≤ 100000) (m : Int) : lcall E 200 [.d (.l 3 xs), .d (.i .i64 m)] [] = some (.d (.b (decide (1 ≤ xs.length) && decide ((xs.length : Int) ≤ m))), []) := by
 refine call_q A.e200 ?_
 by_cases h : (xs.length : Int) ≥ 1
 ·have h' : 1 ≤ xs.length := by omega
  simp only [evAll, Nat.reduceBEq, ↓reduceIte, Nat.reduceEqDiff, Nat.reduceAdd, Nat.reduceLeDiff, Nat.reduceSub, Nat.reduceLT, reduceCtorEq, Int.reduceEq, Int.reduceLT, Int.reduceLE, Int.reduceNeg, loopQ, Int.reduceToNat, Nat.reduceMul, List.range'_one, c200, eq_true h, eq_true h', decide_true]
 ·have h' : ¬ 1 ≤ xs.length := by omega
  simp only [evAll, Nat.reduceBEq, ↓reduceIte, Nat.reduceEqDiff, Nat.reduceAdd, Nat.reduceLeDiff, Nat.reduceSub, Nat.reduceLT, reduceCtorEq, Int.reduceEq, Int.reduceLT, Int.reduceLE, Int.reduceNeg, loopQ, Int.reduceToNat, Nat.reduceMul, List.range'_one, c200, h, h', decide_false]
def symF (g : Gram) (s : GSym) : Bool := if s.tok then decide (0 ≤ s.at_) && (decide (s.at_ < g.toks.length) && (match g.toks[s.at_.toNat]? with | some t => !t.skip | none => false)) else decide (0 ≤ s.at_) && decide (s.at_ < g.nts.length)
theorem sym_ok (A : AE E) (g : Gram) (s : GSym) : lcall E 224 [g.arg, s.arg] [] = some (.d (.b (symF g s)), []) := by
 refine call_q A.e224 ?_
 unfold symF
 cases ht : s.tok
 ·by_cases h0 : s.at_ ≥ 0
  ·have h0' : 0 ≤ s.at_ := h0
   simp only [evAll, Nat.reduceBEq, ↓reduceIte, Nat.reduceEqDiff, Nat.reduceAdd, Nat.reduceLeDiff, Nat.reduceSub, Nat.reduceLT, reduceCtorEq, Int.reduceEq, Int.reduceLT, Int.reduceLE, Int.reduceNeg, loopQ, Int.reduceToNat, Nat.reduceMul, List.range'_one, c224, ht, eq_true h0, eq_true h0', decide_true, List.length_map]
  ·have h0' : ¬ 0 ≤ s.at_ := h0
   simp only [evAll, Nat.reduceBEq, ↓reduceIte, Nat.reduceEqDiff, Nat.reduceAdd, Nat.reduceLeDiff, Nat.reduceSub, Nat.reduceLT, reduceCtorEq, Int.reduceEq, Int.reduceLT, Int.reduceLE, Int.reduceNeg, loopQ, Int.reduceToNat, Nat.reduceMul, List.range'_one, c224, ht, h0, h0', decide_false]
 ·by_cases h0 : s.at_ ≥ 0
  ·have h0' : 0 ≤ s.at_ := h0
   by_cases h1 : s.at_ < g.toks.length
   ·obtain ⟨t, hx, _⟩ := get_at h0' h1
    simp only [evAll, Nat.reduceBEq, ↓reduceIte, Nat.reduceEqDiff, Nat.reduceAdd, Nat.reduceLeDiff, Nat.reduceSub, Nat.reduceLT, reduceCtorEq, Int.reduceEq, Int.reduceLT, Int.reduceLE, Int.reduceNeg, loopQ, Int.reduceToNat, Nat.reduceMul, List.range'_one, c224, ht, eq_true h0, eq_true h0', eq_true h1, hx, decide_true, List.length_map, List.getElem?_map, Option.map_some, GTok.row, ofDs, List.map_cons, List.map_nil]
   ·simp only [evAll, Nat.reduceBEq, ↓reduceIte, Nat.reduceEqDiff, Nat.reduceAdd, Nat.reduceLeDiff, Nat.reduceSub, Nat.reduceLT, reduceCtorEq, Int.reduceEq, Int.reduceLT, Int.reduceLE, Int.reduceNeg, loopQ, Int.reduceToNat, Nat.reduceMul, List.range'_one, c224, ht, eq_true h0, eq_true h0', h1, decide_true, decide_false, List.length_map]
  ·have h0' : ¬ 0 ≤ s.at_ := h0
   simp only [evAll, Nat.reduceBEq, ↓reduceIte, Nat.reduceEqDiff, Nat.reduceAdd, Nat.reduceLeDiff, Nat.reduceSub, Nat.reduceLT, reduceCtorEq, Int.reduceEq, Int.reduceLT, Int.reduceLE, Int.reduceNeg, loopQ, Int.reduceToNat, Nat.reduceMul, List.range'_one, c224, ht, h0, h0', decide_false]
def gprodF (g : Gram) (p : GProd) : Bool := decide (0 ≤ p.left) && (decide (p.left < g.nts.length) && (decide ((p.right.length : Int) ≤ 5) && !p.right.any fun s => !symF g s))
theorem gprod_ok (A : AE E) (g : Gram) {p : GProd} (hp : p.Ok) : lcall E 205 [g.arg, p.arg] [] = some (.d (.b (gprodF g p)), []) := by
 have hr := hp.right
 have hc : ∀ s : GSym, lcall E 223 (rowV true s.row :: ofDs [.q g.cells 0]) [] = some (.d (.b (!symF g s)), []) := fun s => by
  have c := sym_ok A g s
  show lcall E 223 [s.arg, .d (.q g.cells 0)] [] = _
  refine call_q A.e223 ?_
  simp only [evAll, Nat.reduceBEq, ↓reduceIte, Nat.reduceEqDiff, Nat.reduceAdd, Nat.reduceLeDiff, Nat.reduceSub, Nat.reduceLT, reduceCtorEq, Int.reduceEq, Int.reduceLT, Int.reduceLE, Int.reduceNeg, loopQ, Int.reduceToNat, Nat.reduceMul, List.range'_one, c223, c, ofDs, List.map_cons, List.map_nil]
 have c1 := cont_ok (E := E) (key := 222) (ki := 234) (sz := 2) (ag := true) A.e222 A.e234 (fun h => by cases h) (l := p.right) (enc := GSym.row) (p := fun s => !symF g s) (k := 223) (c := [.q g.cells 0]) (by omega) (fun _ _ => rfl) (fun s _ => hc s)
 refine call_q A.e205 ?_
 unfold gprodF
 by_cases h0 : p.left ≥ 0
 ·have h0' : 0 ≤ p.left := h0
  by_cases h1 : p.left < g.nts.length
  ·by_cases h2 : (p.right.length : Int) ≤ 5
   ·simp only [evAll, Nat.reduceBEq, ↓reduceIte, Nat.reduceEqDiff, Nat.reduceAdd, Nat.reduceLeDiff, Nat.reduceSub, Nat.reduceLT, reduceCtorEq, Int.reduceEq, Int.reduceLT, Int.reduceLE, Int.reduceNeg, loopQ, Int.reduceToNat, Nat.reduceMul, List.range'_one, c205, c1, eq_true h0, eq_true h0', eq_true h1, eq_true h2, decide_true, List.length_map]
   ·simp only [evAll, Nat.reduceBEq, ↓reduceIte, Nat.reduceEqDiff, Nat.reduceAdd, Nat.reduceLeDiff, Nat.reduceSub, Nat.reduceLT, reduceCtorEq, Int.reduceEq, Int.reduceLT, Int.reduceLE, Int.reduceNeg, loopQ, Int.reduceToNat, Nat.reduceMul, List.range'_one, c205, eq_true h0, eq_true h0', eq_true h1, h2, decide_true, decide_false, List.length_map]
  ·simp only [evAll, Nat.reduceBEq, ↓reduceIte, Nat.reduceEqDiff, Nat.reduceAdd, Nat.reduceLeDiff, Nat.reduceSub, Nat.reduceLT, reduceCtorEq, Int.reduceEq, Int.reduceLT, Int.reduceLE, Int.reduceNeg, loopQ, Int.reduceToNat, Nat.reduceMul, List.range'_one, c205, eq_true h0, eq_true h0', h1, decide_true, decide_false, List.length_map]
 ·have h0' : ¬ 0 ≤ p.left := h0
  simp only [evAll, Nat.reduceBEq, ↓reduceIte, Nat.reduceEqDiff, Nat.reduceAdd, Nat.reduceLeDiff, Nat.reduceSub, Nat.reduceLT, reduceCtorEq, Int.reduceEq, Int.reduceLT, Int.reduceLE, Int.reduceNeg, loopQ, Int.reduceToNat, Nat.reduceMul, List.range'_one, c205, h0, h0', decide_false]
theorem refsRows_ofDs : ∀ (xs : List (List D)), refsRows (xs.map ofDs) = []
 | [] => rfl
 | r :: rs => by simp only [List.map_cons, refsRows, refs_ofDs, refsRows_ofDs rs, List.nil_append]
theorem renRows_ofDs (f sh : Nat → Nat) : ∀ (xs : List (List D)), renRows f sh (xs.map ofDs) = xs.map ofDs
 | [] => rfl
 | r :: rs => by simp only [List.map_cons, renRows, ren_ofDs, renRows_ofDs f sh rs]
theorem settle_arr {v sz n : Nat} {rows : List (List D)} (hn : n = rows.length) (hr : ∀ r ∈ rows, r.length ≤ 20) (hl : rows.length < 3000) : settle 0 (.arr 0 v 0 n) [some (.arr v sz (rows.map ofDs))] = some (.d (.l sz rows), []) := by
 have h0 : ansIds 0 (.arr 0 v 0 n) = [0] := rfl
 have h1 : V.lend (fun i => (([some (.arr v sz (rows.map ofDs))] : List (Option Obj))[i]?).join) far (.arr 0 v 0 n) = some (.l sz rows) := by
  rw [lend_arr (n := 20) rfl hr (by omega) (by omega)]
  subst hn
  simp
 have h2 : frzA 0 (fun i => (([some (.arr v sz (rows.map ofDs))] : List (Option Obj))[i]?).join) (.arr 0 v 0 n) = some (.d (.l sz rows)) := by
  show (if 0 ≤ 0 then (match V.lend (fun i => (([some (.arr v sz (rows.map ofDs))] : List (Option Obj))[i]?).join) far (.arr 0 v 0 n) with | some d => some (V.d d) | none => none) else some (.arr 0 v 0 n)) = _
  rw [h1]; rfl
 have h3 : reach (fun i => (([some (.arr v sz (rows.map ofDs))] : List (Option Obj))[i]?).join) far [0] [] = some [0] := by
  show reach _ 4095 ([] ++ refsRows (rows.map ofDs)) ([] ++ [0]) = _
  rw [refsRows_ofDs]; rfl
 unfold settle
 simp only [h0, h2, h3]
 rfl
def goAp2 (C : CallF) (K : St → List Foot → Prop) (b d sz bytes : Nat) (r : List CO) (j : Nat) (tm : List (Nat × V)) (hp : List (Option Obj)) (es : List Foot) (id ver off len : Nat) (y : V) (ys : List (List V)) : Option Obj → Prop
 | some (.arr ver' sz' xs) => ((ver = ver' ∧ sz' = sz ∧ off + len ≤ xs.length ∧ y.other id = true ∧ roomy (len + ys.length) bytes = true) ∧
    go C K b r (j + 1) ((d, .arr id (ver + 1) 0 (len + ys.length)) :: tm) (setObjs hp (id :: iaIds y) (some (.arr (ver + 1) sz ((xs.drop off).take len ++ ys)) :: (iaIds y).map (objT hp))) (⟨id :: iaIds y, true, b + j, 0⟩ :: es))
 | _ => False
theorem evZ2 :
  (∀ (C : CallF) (K : St → List Foot → Prop) (b d sz bytes : Nat) (r : List CO) (j : Nat) (tm : List (Nat × V)) (hp : List (Option Obj)) (es : List Foot) (id ver off len : Nat) (y : V) (ys : List (List V)), goAp C K b d sz bytes r j tm hp es (.arr id ver off len) y (some ys) = goAp2 C K b d sz bytes r j tm hp es id ver off len y ys (objT hp id)) ∧
  (∀ (C : CallF) (K : St → List Foot → Prop) (b d sz bytes : Nat) (r : List CO) (j : Nat) (tm : List (Nat × V)) (hp : List (Option Obj)) (es : List Foot) (id ver off len : Nat) (y : V) (ys : List (List V)) (ver' sz' : Nat) (xs : List (List V)), goAp2 C K b d sz bytes r j tm hp es id ver off len y ys (some (.arr ver' sz' xs)) = ((ver = ver' ∧ sz' = sz ∧ off + len ≤ xs.length ∧ y.other id = true ∧ roomy (len + ys.length) bytes = true) ∧
    go C K b r (j + 1) ((d, .arr id (ver + 1) 0 (len + ys.length)) :: tm) (setObjs hp (id :: iaIds y) (some (.arr (ver + 1) sz ((xs.drop off).take len ++ ys)) :: (iaIds y).map (objT hp))) (⟨id :: iaIds y, true, b + j, 0⟩ :: es))) ∧
  (∀ (i : Nat) (x : D), V.other i (.d x) = true) := by
 refine ⟨fun C K b d sz bytes r j tm hp es id ver off len y ys => ?_, ?_, ?_⟩
 ·simp only [goAp]
  cases objT hp id with
  | none => rfl
  | some o => cases o <;> rfl
 ·intros; rfl
 ·intros; rfl
theorem evZ :
  (∀ (x : A), Cop.nmk (.capn x) = 0) ∧ (∀ (sz b : Nat) (z : List D) (x y : A), Cop.nmk (.apz sz b z x y) = 1) ∧ (∀ (sz b : Nat) (x y : A), Cop.nmk (.apa sz b x y) = 1) ∧ (∀ (k r : Nat) (as : List A), Cop.nmk (.callr k as r) = r) ∧ (∀ (s : Nat), iaIds (.nil s) = []) ∧
  (∀ C K b r j tm hp es (d p sz bytes : Nat) (z : List D) (x y : A), go C K b (⟨some d, .apz sz bytes z x y, none, p⟩ :: r) j tm hp es = (match apzT sz bytes (b + j) z (evT tm x) (evT tm y) with
  | some (v, o) => go C K b r (j + 1) ((d, v) :: tm) (hp.set (b + j) (some o)) (⟨[], true, b + j, 1⟩ :: es)
  | none => False)) ∧
  (∀ (sz bytes f s : Nat) (z : List D) (k : IntKind) (n : Int), apzT sz bytes f z (.nil s) (.d (.i k n)) = if 0 ≤ n ∧ roomy n.toNat bytes = true then some (.arr f 0 0 n.toNat, .arr 0 sz (List.replicate n.toNat (ofDs z))) else none) ∧
  (∀ C K b r j tm hp es (d p : Nat) (x : A), go C K b (⟨some d, .capn x, none, p⟩ :: r) j tm hp es = goV C K b d r j tm hp es [] (match evT tm x with | .nil _ => some (.d (.i .i64 0)) | _ => none)) ∧
  (∀ (C : CallF) (K : St → List Foot → Prop) (b d sz bytes : Nat) (r : List CO) (j : Nat) (tm : List (Nat × V)) (hp : List (Option Obj)) (es : List Foot) (s : Nat) (y : V) (ys : List (List V)), goAp C K b d sz bytes r j tm hp es (.nil s) y (some ys) = (roomy ys.length bytes = true ∧ go C K b r (j + 1) ((d, .arr (b + j) 0 0 ys.length) :: tm) (setObjs (setObjs hp (iaIds y) ((iaIds y).map (objT hp))) [b + j] [some (.arr 0 sz ys)]) (⟨iaIds y, true, b + j, 1⟩ :: es))) ∧
  (∀ (sz : Nat) (hp : List (Option Obj)) (s : Nat) (xs : List (List D)), apaY sz hp (.d (.l s xs)) = if s = sz then some (xs.map ofDs) else none) ∧
  (∀ (hp : List (Option Obj)) (sz s : Nat) (lo hi : Option V), slcT sz hp (.nil s) lo hi = match bounds lo hi 0 with | some _ => some (.nil s) | none => none) := by
 refine ⟨fun _ => rfl, fun _ _ _ _ _ => rfl, fun _ _ _ _ => rfl, fun _ _ _ => rfl, fun _ => rfl, fun C K b r j tm hp es d p sz bytes z x y => go_apz ..,?_, fun C K b r j tm hp es d p x => go_capn .., ?_, ?_, ?_⟩
 ·intros; rfl
 ·intros; rfl
 ·intro sz hp s xs
  simp only [apaY, iaIds, List.map_nil, arrMore, moreOf]
  by_cases h : s = sz <;> simp [h]
 ·intros; rfl
theorem refs_rep (n : Nat) : refsRows (List.replicate n [V.d (D.s [])]) = [] := by
 induction n with
 | zero => rfl
 | succ n ih => simp only [List.replicate_succ, refsRows, ih]; rfl
theorem ren_rep (f sh : Nat → Nat) (n : Nat) : renRows f sh (List.replicate n [V.d (D.s [])]) = List.replicate n [V.d (D.s [])] := by
 induction n with
 | zero => rfl
 | succ n ih => simp only [List.replicate_succ, renRows, ih]; rfl
theorem grow0_ok (A : AE E) : lcall E 216 [.nil 1, .d (.i .i64 0)] [] = some (.nil 1, []) := by
 refine call_q A.e216 ?_
 have w0 : IntKind.i64.wrap 0 = 0 := rfl
 simp only [evAll, Nat.reduceBEq, ↓reduceIte, Nat.reduceEqDiff, Nat.reduceAdd, Nat.reduceLeDiff, Nat.reduceSub, Nat.reduceLT, reduceCtorEq, Int.reduceEq, Int.reduceLT, Int.reduceLE, Int.reduceNeg, loopQ, Int.reduceToNat, Nat.reduceMul, List.range'_one, c216, evZ, w0, Int.sub_self]
theorem growN_ok (A : AE E) {n : Nat} (h0 : 0 < n) (hn : n ≤ 100000) : lcall E 216 [.nil 1, .d (.i .i64 n)] [] = some (.arr 0 0 0 0, [some (.arr 0 1 (List.replicate n [.d (.s [])]))]) := by
 refine call_q A.e216 ?_
 have w0 : IntKind.i64.wrap 0 = 0 := rfl
 have h1 : ¬ (n : Int) < 0 := by omega
 have w1 : IntKind.i64.wrap (n : Int) = n := i64w (by omega) (by omega)
 have h2 : (n : Int) > 0 := by omega
 have h3 : (0 : Int) ≤ (n : Int) := by omega
 have r2 : roomy n 16 = true := by unfold roomy; exact decide_eq_true (by omega)
 have b1 : bounds none (some (.d (.i .i64 0))) 0 = some (0, 0) := rfl
 have b2 : bounds none (some (.d (.i .i64 0))) n = some (0, 0) := by
  unfold bounds
  simp only
  rw [if_pos ⟨by omega, by omega, by omega⟩]; rfl
 simp only [evAll, Nat.reduceBEq, ↓reduceIte, Nat.reduceEqDiff, Nat.reduceAdd, Nat.reduceLeDiff, Nat.reduceSub, Nat.reduceLT, reduceCtorEq, Int.reduceEq, Int.reduceLT, Int.reduceLE, Int.reduceNeg, loopQ, Int.reduceToNat, Nat.reduceMul, List.range'_one, c216, evZ, w0, Int.sub_self, Int.sub_zero, h1, w1, eq_true h2, eq_true h3, r2, b1, b2, ofDs, List.map_cons, List.map_nil, refs_rep, ren_rep]
theorem map_ofDs_app (a b : List (List D)) : a.map ofDs ++ b.map ofDs = (a ++ b).map ofDs := by simp
theorem concat_ok (A : AE E) {R1 R2 : List (List D)} (h1 : R1.length ≤ 1000) (h2 : R2.length ≤ 1000) : ∃ v, lcall E 201 [.d (.l 1 [[.l 1 R1], [.l 1 R2]])] [] = some (.arr 0 v 0 (R1 ++ R2).length, [some (.arr v 1 ((R1 ++ R2).map ofDs))]) := by
 have w1 : IntKind.i64.wrap (0 + (R1.length : Int)) = (R1.length : Int) := by rw [Int.zero_add]; exact i64w (by omega) (by omega)
 have w2 : IntKind.i64.wrap ((R1.length : Int) + (R2.length : Int)) = ((R1.length + R2.length : Nat) : Int) := by rw [i64w (by omega) (by omega)]; omega
 have n1 : ¬ (R1.length : Int) < 0 := by omega
 have n2 : ¬ ((R1.length + R2.length : Nat) : Int) < 0 := by omega
 have a1 : IntKind.i64.wrap (0 + 1) = 1 := rfl
 have a2 : IntKind.i64.wrap (1 + 1) = 2 := rfl
 have lt : (0 : Int) < 2 := by omega
 have r1 : roomy R1.length 16 = true := by unfold roomy; exact decide_eq_true (by omega)
 have r2 : roomy (R1.length + R2.length) 16 = true := by unfold roomy; exact decide_eq_true (by omega)
 rcases Nat.eq_zero_or_pos (R1.length + R2.length) with h | h
 ·have e1 : R1 = [] := List.eq_nil_of_length_eq_zero (by omega)
  have e2 : R2 = [] := List.eq_nil_of_length_eq_zero (by omega)
  subst e1; subst e2
  have g := grow0_ok A
  refine ⟨1, call_q A.e201 ?_⟩
  have z0 : roomy 0 16 = true := rfl
  have w0 : IntKind.i64.wrap 0 = 0 := rfl
  simp only [evAll, Nat.reduceBEq, ↓reduceIte, Nat.reduceEqDiff, Nat.reduceAdd, Nat.reduceLeDiff, Nat.reduceSub, Nat.reduceLT, reduceCtorEq, Int.reduceEq, Int.reduceLT, Int.reduceLE, Int.reduceNeg, loopQ, Int.reduceToNat, Nat.reduceMul, List.range'_one, c201, evZ2, evZ, List.length_cons, List.length_nil]
  refine lx_step ?_
  simp only [evAll, Nat.reduceBEq, ↓reduceIte, Nat.reduceEqDiff, Nat.reduceAdd, Nat.reduceLeDiff, Nat.reduceSub, Nat.reduceLT, reduceCtorEq, Int.reduceEq, Int.reduceLT, Int.reduceLE, Int.reduceNeg, loopQ, Int.reduceToNat, Nat.reduceMul, List.range'_one, c201, evZ2, evZ, a1, List.length_nil, w0, Int.add_zero]
  refine ⟨_, rfl, lx_step ?_⟩
  simp only [evAll, Nat.reduceBEq, ↓reduceIte, Nat.reduceEqDiff, Nat.reduceAdd, Nat.reduceLeDiff, Nat.reduceSub, Nat.reduceLT, reduceCtorEq, Int.reduceEq, Int.reduceLT, Int.reduceLE, Int.reduceNeg, loopQ, Int.reduceToNat, Nat.reduceMul, List.range'_one, c201, evZ2, evZ, a1, a2, List.length_nil, w0, Int.add_zero]
  refine ⟨_, rfl, lx_step ?_⟩
  simp only [evAll, Nat.reduceBEq, ↓reduceIte, Nat.reduceEqDiff, Nat.reduceAdd, Nat.reduceLeDiff, Nat.reduceSub, Nat.reduceLT, reduceCtorEq, Int.reduceEq, Int.reduceLT, Int.reduceLE, Int.reduceNeg, loopQ, Int.reduceToNat, Nat.reduceMul, List.range'_one, c201, evZ2, evZ, Int.lt_irrefl, g, List.length_cons, List.length_nil, w0, Int.add_zero]
  refine lx_step ?_
  simp only [evAll, Nat.reduceBEq, ↓reduceIte, Nat.reduceEqDiff, Nat.reduceAdd, Nat.reduceLeDiff, Nat.reduceSub, Nat.reduceLT, reduceCtorEq, Int.reduceEq, Int.reduceLT, Int.reduceLE, Int.reduceNeg, loopQ, Int.reduceToNat, Nat.reduceMul, List.range'_one, c201, evZ2, evZ, a1, z0, List.map_nil, List.length_nil]
  refine ⟨_, rfl, lx_step ?_⟩
  simp only [evAll, Nat.reduceBEq, ↓reduceIte, Nat.reduceEqDiff, Nat.reduceAdd, Nat.reduceLeDiff, Nat.reduceSub, Nat.reduceLT, reduceCtorEq, Int.reduceEq, Int.reduceLT, Int.reduceLE, Int.reduceNeg, loopQ, Int.reduceToNat, Nat.reduceMul, List.range'_one, c201, evZ2, evZ, a1, a2, z0, List.map_nil, List.length_nil, List.append_nil, V.other]
  refine ⟨_, rfl, lx_step ?_⟩
  simp only [evAll, Nat.reduceBEq, ↓reduceIte, Nat.reduceEqDiff, Nat.reduceAdd, Nat.reduceLeDiff, Nat.reduceSub, Nat.reduceLT, reduceCtorEq, Int.reduceEq, Int.reduceLT, Int.reduceLE, Int.reduceNeg, loopQ, Int.reduceToNat, Nat.reduceMul, List.range'_one, c201, evZ2, evZ, Int.lt_irrefl, refsRows, renRows]
 ·have g := growN_ok A h (by omega)
  refine ⟨2, call_q A.e201 ?_⟩
  simp only [evAll, Nat.reduceBEq, ↓reduceIte, Nat.reduceEqDiff, Nat.reduceAdd, Nat.reduceLeDiff, Nat.reduceSub, Nat.reduceLT, reduceCtorEq, Int.reduceEq, Int.reduceLT, Int.reduceLE, Int.reduceNeg, loopQ, Int.reduceToNat, Nat.reduceMul, List.range'_one, c201, evZ2, evZ, List.length_cons, List.length_nil]
  refine lx_step ?_
  simp only [evAll, Nat.reduceBEq, ↓reduceIte, Nat.reduceEqDiff, Nat.reduceAdd, Nat.reduceLeDiff, Nat.reduceSub, Nat.reduceLT, reduceCtorEq, Int.reduceEq, Int.reduceLT, Int.reduceLE, Int.reduceNeg, loopQ, Int.reduceToNat, Nat.reduceMul, List.range'_one, c201, evZ2, evZ, a1, w1, n1]
  refine ⟨_, rfl, lx_step ?_⟩
  simp only [evAll, Nat.reduceBEq, ↓reduceIte, Nat.reduceEqDiff, Nat.reduceAdd, Nat.reduceLeDiff, Nat.reduceSub, Nat.reduceLT, reduceCtorEq, Int.reduceEq, Int.reduceLT, Int.reduceLE, Int.reduceNeg, loopQ, Int.reduceToNat, Nat.reduceMul, List.range'_one, c201, evZ2, evZ, a1, a2, w2, n2]
  refine ⟨_, rfl, lx_step ?_⟩
  simp only [evAll, Nat.reduceBEq, ↓reduceIte, Nat.reduceEqDiff, Nat.reduceAdd, Nat.reduceLeDiff, Nat.reduceSub, Nat.reduceLT, reduceCtorEq, Int.reduceEq, Int.reduceLT, Int.reduceLE, Int.reduceNeg, loopQ, Int.reduceToNat, Nat.reduceMul, List.range'_one, c201, evZ2, evZ, Int.lt_irrefl, g, List.length_cons, List.length_nil, ren_rep]
  refine lx_step ?_
  simp only [evAll, Nat.reduceBEq, ↓reduceIte, Nat.reduceEqDiff, Nat.reduceAdd, Nat.reduceLeDiff, Nat.reduceSub, Nat.reduceLT, reduceCtorEq, Int.reduceEq, Int.reduceLT, Int.reduceLE, Int.reduceNeg, loopQ, Int.reduceToNat, Nat.reduceMul, List.range'_one, c201, evZ2, evZ, a1, List.length_nil, List.length_replicate, r1, List.length_map, List.take_zero, List.nil_append, V.other, Nat.zero_le, Nat.zero_add]
  refine ⟨_, rfl, lx_step ?_⟩
  have tk : (R1.map ofDs).take R1.length = R1.map ofDs := List.take_of_length_le (by simp)
  simp only [evAll, Nat.reduceBEq, ↓reduceIte, Nat.reduceEqDiff, Nat.reduceAdd, Nat.reduceLeDiff, Nat.reduceSub, Nat.reduceLT, reduceCtorEq, Int.reduceEq, Int.reduceLT, Int.reduceLE, Int.reduceNeg, loopQ, Int.reduceToNat, Nat.reduceMul, List.range'_one, c201, evZ2, evZ, a1, a2, r2, List.length_map, List.drop_zero, tk, map_ofDs_app, V.other, Nat.zero_le, Nat.zero_add, Nat.le_refl]
  refine ⟨_, rfl, lx_step ?_⟩
  simp only [evAll, Nat.reduceBEq, ↓reduceIte, Nat.reduceEqDiff, Nat.reduceAdd, Nat.reduceLeDiff, Nat.reduceSub, Nat.reduceLT, reduceCtorEq, Int.reduceEq, Int.reduceLT, Int.reduceLE, Int.reduceNeg, loopQ, Int.reduceToNat, Nat.reduceMul, List.range'_one, c201, evZ2, evZ, Int.lt_irrefl, refsRows_ofDs, renRows_ofDs, List.length_append]
def mayL1 : CCode := match c184.body with
 | .seq _ (.seq _ (.seq _ (.seq (.seq _ (.block _ (.loop _ c))) _))) => c
 | _ => .skip
def mayL2 : CCode := match c184.body with
 | .seq _ (.seq _ (.seq _ (.seq _ (.seq (.seq _ (.block _ (.loop _ c))) _)))) => c
 | _ => .skip
theorem str_snoc (l : List (List UInt8)) (s : List UInt8) : l.map strRow ++ [[.s s]] = (l ++ [s]).map strRow := by simp [strRow]
theorem may_loop1 {x y z : D} {l : List GTok} (hl : l.length ≤ 1000) {Q : Ex → St → Prop} : ∀ (m i : Nat) (out : List (List UInt8)), i + m = l.length → out.length ≤ i →
  (∀ tm, look tm 1 = .ptr 0 0 → look tm 3 = .own 1 0 1 ((out ++ (l.drop i).map GTok.name).map strRow) → Q (.exit 0) ⟨tm, [some (.box [.d x, .d y, .d z]), some (.tok 0 1)]⟩) →
  LX E mayL1 ⟨[1, 3, 26, 27, 28], [3], [], [], [], true⟩ 2 ⟨[(1, .ptr 0 0), (3, .own 1 0 1 (out.map strRow)), (26, .d (.l 3 (l.map GTok.row))), (27, .d (.i .i64 l.length)), (28, .d (.i .i64 i))], [some (.box [.d x, .d y, .d z]), some (.tok 0 1)]⟩ Q := by
 intro m
 induction m with
 | zero =>
  intro i out hi ho hQ
  have hn : ¬ ((i : Int) < l.length) := by omega
  rw [List.drop_eq_nil_of_le (by omega)] at hQ
  simp only [List.map_nil, List.append_nil] at hQ
  refine lx_step ?_
  simp only [evAll, Nat.reduceBEq, ↓reduceIte, Nat.reduceEqDiff, Nat.reduceAdd, Nat.reduceLeDiff, Nat.reduceSub, Nat.reduceLT, reduceCtorEq, Int.reduceEq, Int.reduceLT, Int.reduceLE, Int.reduceNeg, loopQ, Int.reduceToNat, Nat.reduceMul, List.range'_one, mayL1, c184, hn]
  exact hQ _ rfl rfl
 | succ m ih =>
  intro i out hi ho hQ
  have hy : (i : Int) < l.length := by omega
  have la : i < l.length := by omega
  have h0 : (0 : Int) ≤ i := by omega
  have ga : (l.map GTok.row)[i]? = some [.s l[i].name, .s l[i].rex, .b l[i].skip] := by rw [List.getElem?_map, List.getElem?_eq_getElem la]; rfl
  have w : IntKind.i64.wrap ((i : Int) + 1) = ((i + 1 : Nat) : Int) := by rw [i64w (by omega) (by omega)]; omega
  have r2 : roomy (out.length + 1) 16 = true := by unfold roomy; exact decide_eq_true (by omega)
  rw [List.drop_eq_getElem_cons la] at hQ
  simp only [List.map_cons] at hQ
  generalize l[i] = t at *
  refine lx_step ?_
  simp only [evAll, Nat.reduceBEq, ↓reduceIte, Nat.reduceEqDiff, Nat.reduceAdd, Nat.reduceLeDiff, Nat.reduceSub, Nat.reduceLT, reduceCtorEq, Int.reduceEq, Int.reduceLT, Int.reduceLE, Int.reduceNeg, loopQ, Int.reduceToNat, Nat.reduceMul, List.range'_one, mayL1, c184, eq_true hy, h0, ga, ofDs, List.map_cons, List.map_nil, List.length_map, r2, str_snoc, w]
  exact ⟨_, rfl, ih (i + 1) (out ++ [t.name]) (by omega) (by simp; omega) (by simpa using hQ)⟩
def badNt (n : GNt) : Bool := decide (((n.inh ++ n.syn).length : Int) > 4) || !namesF (n.inh ++ n.syn)
theorem may_loop2 (A : AE E) {x y z : D} {l : List GNt} (hl : l.length ≤ 1000) (hn : ∀ n ∈ l, n.inh.length ≤ 1000 ∧ n.syn.length ≤ 1000) {Q : Ex → St → Prop} : ∀ (m i : Nat) (out : List (List UInt8)), i + m = l.length → out.length ≤ i + 1000 →
  ((l.drop i).any badNt = true → ∀ tm hp, look tm 2 = .d (.b false) → Q .ret ⟨tm, hp⟩) →
  ((l.drop i).any badNt = false → ∀ tm, look tm 1 = .ptr 0 0 → look tm 3 = .own 1 0 1 ((out ++ (l.drop i).map GNt.name).map strRow) → Q (.exit 2) ⟨tm, [some (.box [.d x, .d y, .d z]), some (.tok 0 1)]⟩) →
  LX E mayL2 ⟨[1, 3, 39, 40, 41], [3], [], [], [], true⟩ 2 ⟨[(1, .ptr 0 0), (3, .own 1 0 1 (out.map strRow)), (39, .d (.l 3 (l.map GNt.row))), (40, .d (.i .i64 l.length)), (41, .d (.i .i64 i))], [some (.box [.d x, .d y, .d z]), some (.tok 0 1)]⟩ Q := by
 intro m
 induction m with
 | zero =>
  intro i out hi ho hQ1 hQ
  have hn : ¬ ((i : Int) < l.length) := by omega
  rw [List.drop_eq_nil_of_le (by omega)] at hQ
  simp only [List.map_nil, List.append_nil, List.any_nil, forall_const] at hQ
  refine lx_step ?_
  simp only [evAll, Nat.reduceBEq, ↓reduceIte, Nat.reduceEqDiff, Nat.reduceAdd, Nat.reduceLeDiff, Nat.reduceSub, Nat.reduceLT, reduceCtorEq, Int.reduceEq, Int.reduceLT, Int.reduceLE, Int.reduceNeg, loopQ, Int.reduceToNat, Nat.reduceMul, List.range'_one, mayL2, c184, hn]
  exact hQ _ rfl rfl
 | succ m ih =>
  intro i out hi ho hQ1 hQ
  have hy : (i : Int) < l.length := by omega
  have la : i < l.length := by omega
  have h0 : (0 : Int) ≤ i := by omega
  have ga : (l.map GNt.row)[i]? = some [.s l[i].name, .l 1 (l[i].inh.map strRow), .l 1 (l[i].syn.map strRow)] := by rw [List.getElem?_map, List.getElem?_eq_getElem la]; rfl
  have w : IntKind.i64.wrap ((i : Int) + 1) = ((i + 1 : Nat) : Int) := by rw [i64w (by omega) (by omega)]; omega
  have r2 : roomy (out.length + 1) 16 = true := by unfold roomy; exact decide_eq_true (by omega)
  have hb := hn _ (List.getElem_mem la)
  rw [List.drop_eq_getElem_cons la] at hQ hQ1
  simp only [List.map_cons, List.any_cons, Bool.or_eq_true, Bool.or_eq_false_iff] at hQ hQ1
  generalize l[i] = t at *
  obtain ⟨v, c1⟩ := concat_ok A (R1 := t.inh.map strRow) (R2 := t.syn.map strRow) (by simpa using hb.1) (by simpa using hb.2)
  have e1 : t.inh.map strRow ++ t.syn.map strRow = (t.inh ++ t.syn).map strRow := by simp
  rw [e1, List.length_map] at c1
  have c2 : setl1 0 (.arr 0 v 0 (t.inh ++ t.syn).length) [some (.arr v 1 (((t.inh ++ t.syn).map strRow).map ofDs))] [0] = some (.d (.l 1 ((t.inh ++ t.syn).map strRow)), []) :=
   settle_arr (by simp) (fun r hr => by obtain ⟨s, _, rfl⟩ := List.mem_map.1 hr; simp [strRow]) (by simp; omega)
  have c3 := names_ok A (l := t.inh ++ t.syn) (by simp; omega)
  have z0 : (0 : Nat) ≤ 0 := Nat.le_refl 0
  refine lx_step ?_
  by_cases g4 : ((t.inh ++ t.syn).length : Int) > 4
  ·have hbad : badNt t = true := by simp only [badNt, decide_eq_true g4, Bool.true_or]
   simp only [evAll, Nat.reduceBEq, ↓reduceIte, Nat.reduceEqDiff, Nat.reduceAdd, Nat.reduceLeDiff, Nat.reduceSub, Nat.reduceLT, reduceCtorEq, Int.reduceEq, Int.reduceLT, Int.reduceLE, Int.reduceNeg, loopQ, Int.reduceToNat, Nat.reduceMul, List.range'_one, mayL2, c184, eq_true hy, h0, ga, ofDs, List.map_cons, List.map_nil, List.length_map, r2, str_snoc, w, c1, c2, eq_true z0, eq_true g4, List.length_cons, List.length_nil]
   refine hQ1 (.inl hbad) _ _ ?_
   simp only [evAll, Nat.reduceBEq, ↓reduceIte, Nat.reduceEqDiff, Nat.reduceAdd, Nat.reduceLeDiff, Nat.reduceSub, Nat.reduceLT, reduceCtorEq, Int.reduceEq, Int.reduceLT, Int.reduceLE, Int.reduceNeg, loopQ, Int.reduceToNat, Nat.reduceMul, List.range'_one]
  ·cases hnm : namesF (t.inh ++ t.syn)
   ·have hbad : badNt t = true := by simp only [badNt, hnm, Bool.not_false, Bool.or_true]
    rw [hnm] at c3
    simp only [evAll, Nat.reduceBEq, ↓reduceIte, Nat.reduceEqDiff, Nat.reduceAdd, Nat.reduceLeDiff, Nat.reduceSub, Nat.reduceLT, reduceCtorEq, Int.reduceEq, Int.reduceLT, Int.reduceLE, Int.reduceNeg, loopQ, Int.reduceToNat, Nat.reduceMul, List.range'_one, mayL2, c184, eq_true hy, h0, ga, ofDs, List.map_cons, List.map_nil, List.length_map, r2, str_snoc, w, c1, c2, c3, eq_true z0, g4, List.length_cons, List.length_nil]
    refine hQ1 (.inl hbad) _ _ ?_
    simp only [evAll, Nat.reduceBEq, ↓reduceIte, Nat.reduceEqDiff, Nat.reduceAdd, Nat.reduceLeDiff, Nat.reduceSub, Nat.reduceLT, reduceCtorEq, Int.reduceEq, Int.reduceLT, Int.reduceLE, Int.reduceNeg, loopQ, Int.reduceToNat, Nat.reduceMul, List.range'_one]
   ·have hgood : badNt t = false := by simp only [badNt, hnm, decide_eq_false g4, Bool.not_true, Bool.or_self]
    rw [hnm] at c3
    simp only [evAll, Nat.reduceBEq, ↓reduceIte, Nat.reduceEqDiff, Nat.reduceAdd, Nat.reduceLeDiff, Nat.reduceSub, Nat.reduceLT, reduceCtorEq, Int.reduceEq, Int.reduceLT, Int.reduceLE, Int.reduceNeg, loopQ, Int.reduceToNat, Nat.reduceMul, List.range'_one, mayL2, c184, eq_true hy, h0, ga, ofDs, List.map_cons, List.map_nil, List.length_map, r2, str_snoc, w, c1, c2, c3, eq_true z0, g4, List.length_cons, List.length_nil]
    exact ⟨_, rfl, ih (i + 1) (out ++ [t.name]) (by omega) (by simp; omega) (fun h => hQ1 (.inr h)) (fun h => by simpa using hQ ⟨hgood, h⟩)⟩
def gmayF (g : Gram) : Bool := (decide (1 ≤ g.toks.length) && decide ((g.toks.length : Int) ≤ 8)) && ((decide (1 ≤ g.nts.length) && decide ((g.nts.length : Int) ≤ 8)) && ((decide (1 ≤ g.prods.length) && decide ((g.prods.length : Int) ≤ 16)) &&
 (!g.nts.any badNt && (namesF (g.toks.map GTok.name ++ g.nts.map GNt.name) && !g.prods.any fun p => !gprodF g p))))
theorem gmay_ok (A : AE E) {g : Gram} (hg : g.Ok) : lcall E 184 [g.arg] [] = some (.d (.b (gmayF g)), []) := by
 have ht := hg.toks
 have hnt := hg.nts
 have hpr := hg.prods
 have c1 := within1_ok A (xs := g.toks.map GTok.row) (by simp; omega) 8
 have c2 := within2_ok A (xs := g.nts.map GNt.row) (by simp; omega) 8
 have c3 := within3_ok A (xs := g.prods.map GProd.row) (by simp; omega) 16
 rw [List.length_map] at c1 c2 c3
 have hc : ∀ p ∈ g.prods, lcall E 204 (rowV true p.row :: ofDs [.q g.cells 0]) [] = some (.d (.b (!gprodF g p)), []) := fun p hp => by
  have c := gprod_ok A g (hg.prod p hp)
  show lcall E 204 [p.arg, .d (.q g.cells 0)] [] = _
  refine call_q A.e204 ?_
  simp only [evAll, Nat.reduceBEq, ↓reduceIte, Nat.reduceEqDiff, Nat.reduceAdd, Nat.reduceLeDiff, Nat.reduceSub, Nat.reduceLT, reduceCtorEq, Int.reduceEq, Int.reduceLT, Int.reduceLE, Int.reduceNeg, loopQ, Int.reduceToNat, Nat.reduceMul, List.range'_one, c204, c, ofDs, List.map_cons, List.map_nil]
 have c5 := cont_ok (E := E) (key := 203) (ki := 221) (sz := 3) (ag := true) A.e203 A.e221 (fun h => by cases h) (l := g.prods) (enc := GProd.row) (p := fun p => !gprodF g p) (k := 204) (c := [.q g.cells 0]) (by omega) (fun _ _ => rfl) hc
 refine call_q A.e184 ?_
 unfold gmayF
 cases b1 : (decide (1 ≤ g.toks.length) && decide ((g.toks.length : Int) ≤ 8))
 ·rw [b1] at c1
  simp only [evAll, Nat.reduceBEq, ↓reduceIte, Nat.reduceEqDiff, Nat.reduceAdd, Nat.reduceLeDiff, Nat.reduceSub, Nat.reduceLT, reduceCtorEq, Int.reduceEq, Int.reduceLT, Int.reduceLE, Int.reduceNeg, loopQ, Int.reduceToNat, Nat.reduceMul, List.range'_one, c184, c1]
 rw [b1] at c1
 cases b2 : (decide (1 ≤ g.nts.length) && decide ((g.nts.length : Int) ≤ 8))
 ·rw [b2] at c2
  simp only [evAll, Nat.reduceBEq, ↓reduceIte, Nat.reduceEqDiff, Nat.reduceAdd, Nat.reduceLeDiff, Nat.reduceSub, Nat.reduceLT, reduceCtorEq, Int.reduceEq, Int.reduceLT, Int.reduceLE, Int.reduceNeg, loopQ, Int.reduceToNat, Nat.reduceMul, List.range'_one, c184, c1, c2]
 rw [b2] at c2
 cases b3 : (decide (1 ≤ g.prods.length) && decide ((g.prods.length : Int) ≤ 16))
 ·rw [b3] at c3
  simp only [evAll, Nat.reduceBEq, ↓reduceIte, Nat.reduceEqDiff, Nat.reduceAdd, Nat.reduceLeDiff, Nat.reduceSub, Nat.reduceLT, reduceCtorEq, Int.reduceEq, Int.reduceLT, Int.reduceLE, Int.reduceNeg, loopQ, Int.reduceToNat, Nat.reduceMul, List.range'_one, c184, c1, c2, c3]
 rw [b3] at c3
 simp only [evAll, Nat.reduceBEq, ↓reduceIte, Nat.reduceEqDiff, Nat.reduceAdd, Nat.reduceLeDiff, Nat.reduceSub, Nat.reduceLT, reduceCtorEq, Int.reduceEq, Int.reduceLT, Int.reduceLE, Int.reduceNeg, loopQ, Int.reduceToNat, Nat.reduceMul, List.range'_one, c184, c1, c2, c3, List.length_map]
 have r0 : ([] : List (List D)) = ([] : List (List UInt8)).map strRow := rfl
 rw [r0]
 refine may_loop1 ht g.toks.length 0 [] (by omega) (by simp) (fun tm h1 h3 => ?_)
 simp only [evAll, Nat.reduceBEq, ↓reduceIte, Nat.reduceEqDiff, Nat.reduceAdd, Nat.reduceLeDiff, Nat.reduceSub, Nat.reduceLT, reduceCtorEq, Int.reduceEq, Int.reduceLT, Int.reduceLE, Int.reduceNeg, loopQ, Int.reduceToNat, Nat.reduceMul, List.range'_one, h1, h3, List.drop_zero, List.nil_append, List.length_map]
 refine may_loop2 A hnt hg.nt g.nts.length 0 (g.toks.map GTok.name) (by omega) (by simp; omega) (fun hb tm hp h2 => ?_) (fun hb tm h1 h3 => ?_)
 ·rw [List.drop_zero] at hb
  simp only [evAll, Nat.reduceBEq, ↓reduceIte, Nat.reduceEqDiff, Nat.reduceAdd, Nat.reduceLeDiff, Nat.reduceSub, Nat.reduceLT, reduceCtorEq, Int.reduceEq, Int.reduceLT, Int.reduceLE, Int.reduceNeg, loopQ, Int.reduceToNat, Nat.reduceMul, List.range'_one, h2, hb]
 ·rw [List.drop_zero] at hb h3
  have c4 := names_ok A (l := g.toks.map GTok.name ++ g.nts.map GNt.name) (by simp; omega)
  cases b4 : namesF (g.toks.map GTok.name ++ g.nts.map GNt.name)
  ·rw [b4] at c4
   simp only [evAll, Nat.reduceBEq, ↓reduceIte, Nat.reduceEqDiff, Nat.reduceAdd, Nat.reduceLeDiff, Nat.reduceSub, Nat.reduceLT, reduceCtorEq, Int.reduceEq, Int.reduceLT, Int.reduceLE, Int.reduceNeg, loopQ, Int.reduceToNat, Nat.reduceMul, List.range'_one, h1, h3, hb, c4]
  ·rw [b4] at c4
   simp only [evAll, Nat.reduceBEq, ↓reduceIte, Nat.reduceEqDiff, Nat.reduceAdd, Nat.reduceLeDiff, Nat.reduceSub, Nat.reduceLT, reduceCtorEq, Int.reduceEq, Int.reduceLT, Int.reduceLE, Int.reduceNeg, loopQ, Int.reduceToNat, Nat.reduceMul, List.range'_one, h1, h3, hb, c4, c5]
def placeP (x : Int × Int) : List (Int × Int) → Nat
 | [] => 0
 | y :: r => if x = y then 0 else placeP x r + 1
def kvP (x : Int × Int) : List D × V := ([.i .i64 x.1, .i .i64 x.2], .d (.b true))
theorem eqDs_P (a b c d : Int) : eqDs [.i, .i] [.i .i64 a, .i .i64 b] [.i .i64 c, .i .i64 d] = some (decide ((a, b) = (c, d))) := by
 have h : eqDs [.i, .i] [.i .i64 a, .i .i64 b] [.i .i64 c, .i .i64 d] = some (a == c && (b == d && true)) := rfl
 rw [h]
 congr 1
 rw [Bool.eq_iff_iff]
 simp [Prod.mk.injEq]
theorem mapAt_P (a b : Int) : ∀ (l : List (Int × Int)), mapAt [.i, .i] [.i .i64 a, .i .i64 b] (l.map kvP) = some (placeP (a, b) l)
 | [] => rfl
 | (c, d) :: r => by
  have ih := mapAt_P a b r
  simp only [List.map_cons, kvP, mapAt, placeP, eqDs_P]
  by_cases e : (a, b) = (c, d)
  ·simp [e]
  ·have hb : decide ((a, b) = (c, d)) = false := by simpa using e
   rw [hb, if_neg e]
   have ih' : mapAt [.i, .i] [.i .i64 a, .i .i64 b] (List.map kvP r) = some (placeP (a, b) r) := ih
   simp only [ih']
theorem placeP_in {x : Int × Int} : ∀ {l : List (Int × Int)}, x ∈ l → (l.map kvP)[placeP x l]? = some (kvP x)
 | y :: r, h => by
  simp only [placeP]
  by_cases e : x = y
  ·simp [e]
  ·rw [if_neg e]
   have := placeP_in (l := r) (by rcases List.mem_cons.1 h with h | h; exact absurd h e; exact h)
   simpa using this
theorem placeP_out {x : Int × Int} : ∀ {l : List (Int × Int)}, x ∉ l → placeP x l = l.length
 | [], _ => rfl
 | y :: r, h => by
  simp only [placeP]
  rw [if_neg (fun e => h (by rw [e]; exact List.mem_cons_self)), placeP_out (fun hr => h (List.mem_cons_of_mem _ hr))]
  rfl
theorem erase_P {x : Int × Int} : ∀ (l : List (Int × Int)), l.eraseIdx (placeP x l) = l.erase x
 | [] => rfl
 | y :: r => by
  simp only [placeP]
  by_cases e : x = y
  ·simp [e]
  ·rw [if_neg e, List.eraseIdx_cons_succ, erase_P r, List.erase_cons_tail (by simpa using fun h => e h.symm)]
theorem erase_kvP (l : List (Int × Int)) (n : Nat) : (l.map kvP).eraseIdx n = (l.eraseIdx n).map kvP := by
 induction l generalizing n with
 | nil => rfl
 | cons x l ih => cases n with | zero => rfl | succ n => simp only [List.map_cons, List.eraseIdx_cons_succ, ih]
theorem put_kvP {x : Int × Int} {l : List (Int × Int)} : putKv (l.map kvP) [.i .i64 x.1, .i .i64 x.2] (.d (.b true)) l.length = (l ++ [x]).map kvP := by
 unfold putKv
 rw [if_neg (by simp)]
 simp [kvP]
theorem under_kvP (n : Nat) : ∀ (l : List (Int × Int)), underKvs n (l.map kvP) = true
 | [] => rfl
 | y :: r => by
  have := under_kvP n r
  simp only [List.map_cons, kvP, underKvs, V.under, Bool.true_and]
  exact this
theorem norm_kvP (h : List (Option Obj)) (l : List (Int × Int)) : (l.map kvP).map (fun p => (p.1, normV h p.2)) = l.map kvP := by
 rw [List.map_map]; rfl
theorem refs_kvP : ∀ (l : List (Int × Int)), refsKvs (l.map kvP) = []
 | [] => rfl
 | y :: r => by
  have := refs_kvP r
  simp only [List.map_cons, kvP, refsKvs, V.refs, List.nil_append]
  exact this
theorem ren_kvP (f sh : Nat → Nat) : ∀ (l : List (Int × Int)), renKvs f sh (l.map kvP) = l.map kvP
 | [] => rfl
 | y :: r => by
  have := ren_kvP f sh r
  simp only [List.map_cons, kvP, renKvs, V.ren]
  rw [show renKvs f sh (List.map kvP r) = List.map kvP r from this]
def wantB (g : Gram) (p : GProd) (x : Int × Int) : Bool := (occF p x.1).2 && !inF g p x
def wRow (g : Gram) (p : GProd) (at_ : Int) : Nat → Nat → List (Int × Int)
 | _, 0 => []
 | a, n + 1 => (if wantB g p (at_, a) then [(at_, (a : Int))] else []) ++ wRow g p at_ (a + 1) n
def wAll (g : Gram) (p : GProd) : Nat → Nat → List (Int × Int)
 | _, 0 => []
 | at_, n + 1 => wRow g p at_ 0 (countF g (occF p at_).1).toNat ++ wAll g p (at_ + 1) n
def wantsF (g : Gram) (p : GProd) : List (Int × Int) := wAll g p 0 (p.right.length + 1)
theorem wRow_mem {g : Gram} {p : GProd} {at_ : Int} {x : Int × Int} : ∀ {n a : Nat}, x ∈ wRow g p at_ a n → x.1 = at_ ∧ (a : Int) ≤ x.2 ∧ x.2 < ((a + n : Nat) : Int) ∧ wantB g p x = true
 | 0, a, h => by simp [wRow] at h
 | n + 1, a, h => by
  simp only [wRow, List.mem_append] at h
  rcases h with h | h
  ·split at h
   ·rename_i hw
    simp only [List.mem_singleton] at h
    subst h
    exact ⟨rfl, by simp, by simp; omega, hw⟩
   ·simp at h
  ·obtain ⟨h1, h2, h3, h4⟩ := wRow_mem h
   exact ⟨h1, by omega, by omega, h4⟩
def wIn : CCode := match c207.body with
 | .seq _ (.seq _ (.seq (.seq _ (.block _ (.loop _ (.seq _ (.seq _ (.seq (.block _ (.seq _ (.seq _ (.seq _ (.block _ (.loop _ c)))))) _)))))) _)) => c
 | _ => .skip
def wOut : CCode := match c207.body with
 | .seq _ (.seq _ (.seq (.seq _ (.block _ (.loop _ c))) _)) => c
 | _ => .skip
abbrev bxG (g : Gram) : Option Obj := some (.box [.d (.l 3 (g.toks.map GTok.row)), .d (.l 3 (g.nts.map GNt.row)), .d (.l 3 (g.prods.map GProd.row))])
abbrev bxP (p : GProd) : Option Obj := some (.box [.d (.i .i64 p.left), .d (.l 2 (p.right.map GSym.row)), .d (.l 10 (p.rules.map GRule.row))])
theorem wants_in (A : AE E) {g : Gram} (hg : g.Ok) {p : GProd} (hp : p.Ok) {at_ : Nat} {c : Nat} (hc : c ≤ 3000) {t17 : V} (h17 : ∃ n : Int, t17 = .d (.i .i64 n)) {Q : Ex → St → Prop} : ∀ (m a : Nat) (l : List (Int × Int)), a + m = c → (∀ x ∈ l, x.1 < (at_ : Int) ∨ (x.1 = (at_ : Int) ∧ x.2 < (a : Int))) →
  (∀ tm, look tm 2 = .ptr 0 0 → look tm 3 = .ptr 1 0 → look tm 5 = .map 2 → look tm 17 = t17 → look tm 18 = .d (.i .i64 at_) → Q (.exit 2) ⟨tm, [bxG g, bxP p, some (.map ((l ++ wRow g p at_ a m).map kvP))]⟩) →
  LX E wIn ⟨[2, 3, 5, 6, 17, 18, 29, 30], [], [], [], [], true⟩ 3 ⟨[(2, .ptr 0 0), (3, .ptr 1 0), (5, .map 2), (6, .d (.i .i64 at_)), (17, t17), (18, .d (.i .i64 at_)), (29, .d (.i .i64 c)), (30, .d (.i .i64 a))], [bxG g, bxP p, some (.map (l.map kvP))]⟩ Q := by
 obtain ⟨t, rfl⟩ := h17
 intro m
 induction m with
 | zero =>
  intro a l hi hl hQ
  have hn : ¬ ((a : Int) < (c : Int)) := by omega
  simp only [wRow, List.append_nil] at hQ
  refine lx_step ?_
  simp only [evAll, Nat.reduceBEq, ↓reduceIte, Nat.reduceEqDiff, Nat.reduceAdd, Nat.reduceLeDiff, Nat.reduceSub, Nat.reduceLT, reduceCtorEq, Int.reduceEq, Int.reduceLT, Int.reduceLE, Int.reduceNeg, loopQ, Int.reduceToNat, Nat.reduceMul, List.range'_one, wIn, c207, hn]
  exact hQ _ rfl rfl rfl rfl rfl
 | succ m ih =>
  intro a l hi hl hQ
  have hy : (a : Int) < (c : Int) := by omega
  have w : IntKind.i64.wrap ((a : Int) + 1) = ((a + 1 : Nat) : Int) := by rw [i64w (by omega) (by omega)]; omega
  have c1 := occ_ok A hp (at_ : Int)
  have c2 := in_ok A hg hp ((at_ : Int), (a : Int))
  simp only [wRow] at hQ
  have hno : ((at_ : Int), (a : Int)) ∉ l := fun h => by rcases hl _ h with h | ⟨_, h⟩ <;> omega
  have ma := mapAt_P (at_ : Int) (a : Int) l
  rw [placeP_out hno] at ma
  have pp := put_kvP (x := ((at_ : Int), (a : Int))) (l := l)
  have step : ∀ b, wantB g p ((at_ : Int), (a : Int)) = b → LX E wIn ⟨[2, 3, 5, 6, 17, 18, 29, 30], [], [], [], [], true⟩ 3 ⟨[(2, .ptr 0 0), (3, .ptr 1 0), (5, .map 2), (6, .d (.i .i64 at_)), (17, .d (.i .i64 t)), (18, .d (.i .i64 at_)), (29, .d (.i .i64 c)), (30, .d (.i .i64 ((a + 1 : Nat) : Int)))], [bxG g, bxP p, some (.map ((l ++ if b then [((at_ : Int), (a : Int))] else []).map kvP))]⟩ Q := fun b hb => by
   refine ih (a + 1) _ (by omega) (fun x hx => ?_) (fun tm h2 h3 h5 h17 h18 => ?_)
   ·rcases List.mem_append.1 hx with hx | hx
    ·rcases hl _ hx with h | ⟨h1, h2⟩
     ·exact .inl h
     ·exact .inr ⟨h1, by omega⟩
    ·split at hx
     ·simp only [List.mem_singleton] at hx
      subst hx
      exact .inr ⟨rfl, by simp; omega⟩
     ·simp at hx
   ·have := hQ tm h2 h3 h5 h17 h18
    rw [hb] at this
    rw [List.append_assoc]; exact this
  refine lx_step ?_
  cases ok : (occF p (at_ : Int)).2
  ·have hb : wantB g p ((at_ : Int), (a : Int)) = false := by simp only [wantB, ok, Bool.false_and]
   rw [ok] at c1
   simp only [evAll, Nat.reduceBEq, ↓reduceIte, Nat.reduceEqDiff, Nat.reduceAdd, Nat.reduceLeDiff, Nat.reduceSub, Nat.reduceLT, reduceCtorEq, Int.reduceEq, Int.reduceLT, Int.reduceLE, Int.reduceNeg, loopQ, Int.reduceToNat, Nat.reduceMul, List.range'_one, wIn, c207, eq_true hy, c1, w, under_kvP, norm_kvP]
   have := step false hb
   simp only [Bool.false_eq_true, if_false, List.append_nil] at this
   exact ⟨_, rfl, this⟩
  ·rw [ok] at c1
   cases hin : inF g p ((at_ : Int), (a : Int))
   ·have hb : wantB g p ((at_ : Int), (a : Int)) = true := by simp only [wantB, ok, hin, Bool.not_false, Bool.true_and]
    rw [hin] at c2
    simp only [evAll, Nat.reduceBEq, ↓reduceIte, Nat.reduceEqDiff, Nat.reduceAdd, Nat.reduceLeDiff, Nat.reduceSub, Nat.reduceLT, reduceCtorEq, Int.reduceEq, Int.reduceLT, Int.reduceLE, Int.reduceNeg, loopQ, Int.reduceToNat, Nat.reduceMul, List.range'_one, wIn, c207, eq_true hy, c1, c2, w, ma, pp, under_kvP, norm_kvP, List.length_cons, List.length_nil]
    have := step true hb
    simp only [if_true] at this
    exact ⟨_, rfl, this⟩
   ·have hb : wantB g p ((at_ : Int), (a : Int)) = false := by simp only [wantB, ok, hin, Bool.not_true, Bool.and_false]
    rw [hin] at c2
    simp only [evAll, Nat.reduceBEq, ↓reduceIte, Nat.reduceEqDiff, Nat.reduceAdd, Nat.reduceLeDiff, Nat.reduceSub, Nat.reduceLT, reduceCtorEq, Int.reduceEq, Int.reduceLT, Int.reduceLE, Int.reduceNeg, loopQ, Int.reduceToNat, Nat.reduceMul, List.range'_one, wIn, c207, eq_true hy, c1, c2, w, under_kvP, norm_kvP]
    have := step false hb
    simp only [Bool.false_eq_true, if_false, List.append_nil] at this
    exact ⟨_, rfl, this⟩
theorem wAll_mem {g : Gram} {p : GProd} {x : Int × Int} : ∀ {n at_ : Nat}, x ∈ wAll g p at_ n → (at_ : Int) ≤ x.1 ∧ x.1 < ((at_ + n : Nat) : Int) ∧ 0 ≤ x.2 ∧ wantB g p x = true
 | 0, at_, h => by simp [wAll] at h
 | n + 1, at_, h => by
  simp only [wAll, List.mem_append] at h
  rcases h with h | h
  ·obtain ⟨h1, h2, h3, h4⟩ := wRow_mem h
   exact ⟨by omega, by omega, by omega, h4⟩
  ·obtain ⟨h1, h2, h3, h4⟩ := wAll_mem h
   exact ⟨by omega, by omega, h3, h4⟩
theorem count_bound {g : Gram} (hg : g.Ok) (i : Int) : 0 ≤ countF g i ∧ countF g i ≤ 2000 := by
 have := ntA_ok hg i
 unfold countF; omega
set_option maxHeartbeats 1000000 in
theorem wants_out (A : AE E) {g : Gram} (hg : g.Ok) {p : GProd} (hp : p.Ok) {c : Nat} (hc : c ≤ 3000) {Q : Ex → St → Prop} : ∀ (m i : Nat) (l : List (Int × Int)), i + m = c → (∀ x ∈ l, x.1 < (i : Int)) →
  (∀ tm, look tm 5 = .map 2 → Q (.exit 0) ⟨tm, [bxG g, bxP p, some (.map ((l ++ wAll g p i m).map kvP))]⟩) →
  LX E wOut ⟨[2, 3, 5, 17, 18], [], [], [], [], true⟩ 3 ⟨[(2, .ptr 0 0), (3, .ptr 1 0), (5, .map 2), (17, .d (.i .i64 c)), (18, .d (.i .i64 i))], [bxG g, bxP p, some (.map (l.map kvP))]⟩ Q := by
 intro m
 induction m with
 | zero =>
  intro i l hi hl hQ
  have hn : ¬ ((i : Int) < (c : Int)) := by omega
  simp only [wAll, List.append_nil] at hQ
  refine lx_step ?_
  simp only [evAll, Nat.reduceBEq, ↓reduceIte, Nat.reduceEqDiff, Nat.reduceAdd, Nat.reduceLeDiff, Nat.reduceSub, Nat.reduceLT, reduceCtorEq, Int.reduceEq, Int.reduceLT, Int.reduceLE, Int.reduceNeg, loopQ, Int.reduceToNat, Nat.reduceMul, List.range'_one, wOut, c207, hn]
  exact hQ _ rfl
 | succ m ih =>
  intro i l hi hl hQ
  have hy : (i : Int) < (c : Int) := by omega
  have w : IntKind.i64.wrap ((i : Int) + 1) = ((i + 1 : Nat) : Int) := by rw [i64w (by omega) (by omega)]; omega
  have c1 := occ_ok A hp (i : Int)
  have c2 := count_ok A hg (occF p (i : Int)).1
  obtain ⟨b1, b2⟩ := count_bound hg (occF p (i : Int)).1
  simp only [wAll] at hQ
  obtain ⟨k, hk⟩ : ∃ k : Nat, countF g (occF p (i : Int)).1 = (k : Int) := ⟨(countF g (occF p (i : Int)).1).toNat, by omega⟩
  rw [hk] at c2 hQ
  rw [Int.toNat_natCast] at hQ
  refine lx_step ?_
  simp only [evAll, Nat.reduceBEq, ↓reduceIte, Nat.reduceEqDiff, Nat.reduceAdd, Nat.reduceLeDiff, Nat.reduceSub, Nat.reduceLT, reduceCtorEq, Int.reduceEq, Int.reduceLT, Int.reduceLE, Int.reduceNeg, loopQ, Int.reduceToNat, Nat.reduceMul, List.range'_one, wOut, c207, eq_true hy, c1, c2]
  have hin := wants_in A hg hp (at_ := i) (c := k) (by omega) (t17 := .d (.i .i64 c)) ⟨_, rfl⟩ (Q := blockQ 2 (blockQ 1 (seqQ E (.region false [⟨some 53, .bin .add (.t 18) (.k (.d (.i .i64 1))), none, 0⟩, ⟨some 18, .mv (.t 53), none, 0⟩]) (loopQ E wOut ⟨[2, 3, 5, 17, 18], [], [], [], [], true⟩ 3 Q)))) k 0 l (by omega) (fun x hx => .inl (hl x hx)) (fun tm h2 h3 h5 h17 h18 => ?_)
  ·exact hin
  ·simp only [evAll, Nat.reduceBEq, ↓reduceIte, Nat.reduceEqDiff, Nat.reduceAdd, Nat.reduceLeDiff, Nat.reduceSub, Nat.reduceLT, reduceCtorEq, Int.reduceEq, Int.reduceLT, Int.reduceLE, Int.reduceNeg, loopQ, Int.reduceToNat, Nat.reduceMul, List.range'_one, h2, h3, h5, h17, h18, w, under_kvP, norm_kvP]
   refine ⟨_, rfl, ih (i + 1) _ (by omega) (fun x hx => ?_) (fun tm h5 => ?_)⟩
   ·rcases List.mem_append.1 hx with hx | hx
    ·have := hl x hx; omega
    ·have := (wRow_mem hx).1; omega
   ·have := hQ tm h5
    rw [List.append_assoc]; exact this
theorem wants_ok (A : AE E) {g : Gram} (hg : g.Ok) {p : GProd} (hp : p.Ok) : lcall E 207 [g.arg, p.arg] [] = some (.map 0, [some (.map ((wantsF g p).map kvP))]) := by
 have hr := hp.right
 have w : IntKind.i64.wrap ((p.right.length : Int) + 1) = ((p.right.length + 1 : Nat) : Int) := by rw [i64w (by omega) (by omega)]; omega
 refine call_q A.e207 ?_
 simp only [evAll, Nat.reduceBEq, ↓reduceIte, Nat.reduceEqDiff, Nat.reduceAdd, Nat.reduceLeDiff, Nat.reduceSub, Nat.reduceLT, reduceCtorEq, Int.reduceEq, Int.reduceLT, Int.reduceLE, Int.reduceNeg, loopQ, Int.reduceToNat, Nat.reduceMul, List.range'_one, c207, List.length_map, w]
 have h0 : ([] : List (List D × V)) = ([] : List (Int × Int)).map kvP := rfl
 rw [h0]
 refine wants_out A hg hp (by omega) (p.right.length + 1) 0 [] (by omega) (by simp) (fun tm h5 => ?_)
 simp only [evAll, Nat.reduceBEq, ↓reduceIte, Nat.reduceEqDiff, Nat.reduceAdd, Nat.reduceLeDiff, Nat.reduceSub, Nat.reduceLT, reduceCtorEq, Int.reduceEq, Int.reduceLT, Int.reduceLE, Int.reduceNeg, loopQ, Int.reduceToNat, Nat.reduceMul, List.range'_one, h5, List.nil_append, refs_kvP, ren_kvP]
 rfl
theorem evF :
  (∀ (C : CallF) (K : St → List Foot → Prop) (b d k n : Nat) (r : List CO) (j : Nat) (tm : List (Nat × V)) (hp : List (Option Obj)) (es : List Foot) (vs : List V), goMkf C K b d k n r j tm hp es vs none = (((ptrIds vs).map (objT hp)).all Option.isSome = true ∧ go C K b r j ((d, .fn k (vs.take n) (vs.drop n)) :: tm) (setObjs hp (ptrIds vs) ((ptrIds vs).map (objT hp))) (⟨ptrIds vs, true, b + j, 0⟩ :: es))) ∧
  (∀ (k i o : Nat) (r : List V), V.toD (.fn k [] (.ptr i o :: r)) = none) ∧ (∀ (i : Nat), V.toD (.map i) = none) ∧
  (∀ (r : Option (List D)), consO none r = none) ∧
  (∀ (off : Nat) (o : Obj) (y : Option (List D × List (Option Obj))), frz2 off o none y = none) ∧
  (∀ (hp : List (Option Obj)) (id off : Nat) (vs : List V) (ds : List D), frzP id off vs hp (some (.cst ds)) = match frzL vs hp with | some (c, os) => some (.q ds off :: c, some (.cst ds) :: os) | none => none) := by
 refine ⟨?_, ?_, ?_, ?_, ?_, ?_⟩
 ·intros; rfl
 ·intro k i o r; simp [V.toD, V.toDs]
 ·intro i; rfl
 ·intro r; cases r <;> rfl
 ·intros; rfl
 ·intros; rfl
abbrev GRule.at_ (r : GRule) : Int × Int := (r.occ, r.attr)
def ruleB (mv : GVal → Bool) (g : Gram) (p : GProd) (l : List (Int × Int)) (r : GRule) : Bool := decide (r.at_ ∈ l) && (mayE mv r.e 12 && textsF p r.e)
def ruleAll (mv : GVal → Bool) (g : Gram) (p : GProd) (l : List (Int × Int)) (r : GRule) : Bool := ruleB mv g p l r && !(refsF r.e).any fun x => !inF g p x
def bxF (fr : Bool) (ds : List D) : Option Obj := if fr then some (.cst ds) else some (.box (ofDs ds))
abbrev hp4 (fr : Bool) (g : Gram) (p : GProd) (l : List (Int × Int)) : List (Option Obj) := [some (.box [.map 3]), bxF fr p.cells, bxF fr g.cells, some (.map (l.map kvP))]
structure GRule.Ok (P : GVal → Prop) (r : GRule) : Prop where
 e : AllV P r.e
 refs : (refsF r.e).length ≤ 1000000
theorem rule_ok (A : AE E) {mv : GVal → Bool} {P : GVal → Prop} (hv : ∀ v, P v → lcall E 111 [v.arg] [] = some (.d (.b (mv v)), [])) {g : Gram} (hg : g.Ok) {p : GProd} (hp : p.Ok) {r : GRule} (hr : r.Ok P) (l : List (Int × Int)) (fr : Bool) :
  lcall E 209 [r.arg, .ptr 0 0, .ptr 1 0, .ptr 2 0] (hp4 fr g p l) = some (.d (.b (ruleAll mv g p l r)), hp4 (fr || ruleB mv g p l r) g p (l.erase r.at_)) := by
 have c1 := May_ok A hv hr.e
 have c2 := texts_ok A hp (sizeOf r.e + 1) r.e (by omega) hr.e
 have c3 := refs_ok A (sizeOf r.e + 1) r.e (by omega) hr.e hr.refs
 have c4 := fun x => in1_ok A hg hp x
 have ce : lcall E 212 [.d (.l 2 ((refsF r.e).map pairRow)), .d (.f 213 [] [.q g.cells 0, .q p.cells 0])] [] = some (.d (.b (!(refsF r.e).any fun x => !inF g p x)), []) := by
  have hc : ∀ x ∈ refsF r.e, lcall E 232 (rowV true (pairRow x) :: ofDs [.q [.f 213 [] [.q g.cells 0, .q p.cells 0]] 0]) [] = some (.d (.b (!inF g p x)), []) := fun x _ => by
   have c := c4 x
   show lcall E 232 [pairArg x.1 x.2, .d (.q [.f 213 [] [.q g.cells 0, .q p.cells 0]] 0)] [] = _
   refine call_q A.e232 ?_
   simp only [evAll, Nat.reduceBEq, ↓reduceIte, Nat.reduceEqDiff, Nat.reduceAdd, Nat.reduceLeDiff, Nat.reduceSub, Nat.reduceLT, reduceCtorEq, Int.reduceEq, Int.reduceLT, Int.reduceLE, Int.reduceNeg, loopQ, Int.reduceToNat, Nat.reduceMul, List.range'_one, c232, c, ofDs, List.map_cons, List.map_nil, List.nil_append, List.cons_append]
  have cc := cont_ok (E := E) (key := 231) (ki := 240) (sz := 2) (ag := true) A.e231 A.e240 (fun h => by cases h) (l := refsF r.e) (enc := pairRow) (p := fun x => !inF g p x) (k := 232) (c := [.q [.f 213 [] [.q g.cells 0, .q p.cells 0]] 0]) hr.refs (fun _ _ => rfl) hc
  refine call_q A.e212 ?_
  simp only [evAll, Nat.reduceBEq, ↓reduceIte, Nat.reduceEqDiff, Nat.reduceAdd, Nat.reduceLeDiff, Nat.reduceSub, Nat.reduceLT, reduceCtorEq, Int.reduceEq, Int.reduceLT, Int.reduceLE, Int.reduceNeg, loopQ, Int.reduceToNat, Nat.reduceMul, List.range'_one, c212, cc, ofDs, List.map_cons, List.map_nil]
 have ma := mapAt_P r.occ r.attr l
 have er := erase_kvP l (placeP r.at_ l)
 rw [erase_P] at er
 have pk : lkB false (.d (.b false)) (l.map kvP) (some (placeP r.at_ l)) = some (.d (.b (decide (r.at_ ∈ l)))) := by
  by_cases h : r.at_ ∈ l
  ·simp only [lkB, placeP_in h, got, kvP, h, decide_true]; rfl
  ·have : (l.map kvP)[placeP r.at_ l]? = none := List.getElem?_eq_none (by rw [placeP_out h]; simp)
   simp only [lkB, this, got, h, decide_false]; rfl
 refine call_q A.e209 ?_
 unfold ruleAll ruleB
 cases fr
 ·cases b1 : decide (r.at_ ∈ l)
  ·rw [b1] at pk
   simp only [evAll, Nat.reduceBEq, ↓reduceIte, Nat.reduceEqDiff, Nat.reduceAdd, Nat.reduceLeDiff, Nat.reduceSub, Nat.reduceLT, reduceCtorEq, Int.reduceEq, Int.reduceLT, Int.reduceLE, Int.reduceNeg, loopQ, Int.reduceToNat, Nat.reduceMul, List.range'_one, c209, ma, pk, er, bxF, ofDs, List.map_cons, List.map_nil, refs_kvP, ren_kvP, List.length_cons, List.length_nil]
   rfl
  rw [b1] at pk
  cases b2 : mayE mv r.e 12
  ·rw [b2] at c1
   simp only [evAll, Nat.reduceBEq, ↓reduceIte, Nat.reduceEqDiff, Nat.reduceAdd, Nat.reduceLeDiff, Nat.reduceSub, Nat.reduceLT, reduceCtorEq, Int.reduceEq, Int.reduceLT, Int.reduceLE, Int.reduceNeg, loopQ, Int.reduceToNat, Nat.reduceMul, List.range'_one, c209, ma, pk, er, c1, bxF, ofDs, List.map_cons, List.map_nil, refs_kvP, ren_kvP, List.length_cons, List.length_nil]
   rfl
  rw [b2] at c1
  cases b3 : textsF p r.e
  ·rw [b3] at c2
   simp only [evAll, Nat.reduceBEq, ↓reduceIte, Nat.reduceEqDiff, Nat.reduceAdd, Nat.reduceLeDiff, Nat.reduceSub, Nat.reduceLT, reduceCtorEq, Int.reduceEq, Int.reduceLT, Int.reduceLE, Int.reduceNeg, loopQ, Int.reduceToNat, Nat.reduceMul, List.range'_one, c209, ma, pk, er, c1, c2, bxF, ofDs, List.map_cons, List.map_nil, refs_kvP, ren_kvP, List.length_cons, List.length_nil]
   rfl
  rw [b3] at c2
  simp only [evAll, Nat.reduceBEq, ↓reduceIte, Nat.reduceEqDiff, Nat.reduceAdd, Nat.reduceLeDiff, Nat.reduceSub, Nat.reduceLT, reduceCtorEq, Int.reduceEq, Int.reduceLT, Int.reduceLE, Int.reduceNeg, loopQ, Int.reduceToNat, Nat.reduceMul, List.range'_one, c209, ma, pk, er, c1, c2, c3, ce, bxF, ofDs, List.map_cons, List.map_nil, refs_kvP, ren_kvP, List.length_cons, List.length_nil]
  rfl
 ·cases b1 : decide (r.at_ ∈ l)
  ·rw [b1] at pk
   simp only [evAll, Nat.reduceBEq, ↓reduceIte, Nat.reduceEqDiff, Nat.reduceAdd, Nat.reduceLeDiff, Nat.reduceSub, Nat.reduceLT, reduceCtorEq, Int.reduceEq, Int.reduceLT, Int.reduceLE, Int.reduceNeg, loopQ, Int.reduceToNat, Nat.reduceMul, List.range'_one, c209, ma, pk, er, bxF, ofDs, List.map_cons, List.map_nil, refs_kvP, ren_kvP, List.length_cons, List.length_nil]
   rfl
  rw [b1] at pk
  cases b2 : mayE mv r.e 12
  ·rw [b2] at c1
   simp only [evAll, Nat.reduceBEq, ↓reduceIte, Nat.reduceEqDiff, Nat.reduceAdd, Nat.reduceLeDiff, Nat.reduceSub, Nat.reduceLT, reduceCtorEq, Int.reduceEq, Int.reduceLT, Int.reduceLE, Int.reduceNeg, loopQ, Int.reduceToNat, Nat.reduceMul, List.range'_one, c209, ma, pk, er, c1, bxF, ofDs, List.map_cons, List.map_nil, refs_kvP, ren_kvP, List.length_cons, List.length_nil]
   rfl
  rw [b2] at c1
  cases b3 : textsF p r.e
  ·rw [b3] at c2
   simp only [evAll, Nat.reduceBEq, ↓reduceIte, Nat.reduceEqDiff, Nat.reduceAdd, Nat.reduceLeDiff, Nat.reduceSub, Nat.reduceLT, reduceCtorEq, Int.reduceEq, Int.reduceLT, Int.reduceLE, Int.reduceNeg, loopQ, Int.reduceToNat, Nat.reduceMul, List.range'_one, c209, ma, pk, er, c1, c2, bxF, ofDs, List.map_cons, List.map_nil, refs_kvP, ren_kvP, List.length_cons, List.length_nil]
   rfl
  rw [b3] at c2
  simp only [evAll, Nat.reduceBEq, ↓reduceIte, Nat.reduceEqDiff, Nat.reduceAdd, Nat.reduceLeDiff, Nat.reduceSub, Nat.reduceLT, reduceCtorEq, Int.reduceEq, Int.reduceLT, Int.reduceLE, Int.reduceNeg, loopQ, Int.reduceToNat, Nat.reduceMul, List.range'_one, c209, evF, ma, pk, er, c1, c2, c3, ce, bxF, ofDs, List.map_cons, List.map_nil, refs_kvP, ren_kvP, List.length_cons, List.length_nil]
  rfl
abbrev hp5 (fr : Bool) (g : Gram) (p : GProd) (l : List (Int × Int)) : List (Option Obj) := [some (.box [.fn 209 [] [.ptr 1 0, .ptr 2 0, .ptr 3 0]]), some (.box [.map 4]), bxF fr p.cells, bxF fr g.cells, some (.map (l.map kvP))]
theorem notrule_ok (A : AE E) {mv : GVal → Bool} {P : GVal → Prop} (hv : ∀ v, P v → lcall E 111 [v.arg] [] = some (.d (.b (mv v)), [])) {g : Gram} (hg : g.Ok) {p : GProd} (hp : p.Ok) {r : GRule} (hr : r.Ok P) (l : List (Int × Int)) (fr : Bool) :
  lcall E 227 [r.arg, .ptr 0 0] (hp5 fr g p l) = some (.d (.b (!ruleAll mv g p l r)), hp5 (fr || ruleB mv g p l r) g p (l.erase r.at_)) := by
 have c1 := rule_ok A hv hg hp hr l fr
 generalize ruleAll mv g p l r = b1 at *
 generalize ruleB mv g p l r = b2 at *
 refine call_q A.e227 ?_
 cases fr <;> cases b2 <;> simp only [hp4, hp5, bxF, ofDs, List.map_cons, List.map_nil, Bool.or_false, Bool.or_true, Bool.false_or, Bool.true_or, Bool.false_eq_true, if_false, if_true] at c1 ⊢
 all_goals
  simp only [evAll, Nat.reduceBEq, ↓reduceIte, Nat.reduceEqDiff, Nat.reduceAdd, Nat.reduceLeDiff, Nat.reduceSub, Nat.reduceLT, reduceCtorEq, Int.reduceEq, Int.reduceLT, Int.reduceLE, Int.reduceNeg, loopQ, Int.reduceToNat, Nat.reduceMul, List.range'_one, c227, c1, refs_kvP, ren_kvP]
def rulesF (mv : GVal → Bool) (g : Gram) (p : GProd) : List GRule → List (Int × Int) → Bool × List (Int × Int)
 | [], l => (true, l)
 | r :: rs, l => if ruleAll mv g p l r then rulesF mv g p rs (l.erase r.at_) else (false, l.erase r.at_)
def ruLoop : CCode := match c235.body with
 | .seq _ (.seq (.seq _ (.block _ (.loop _ c))) _) => c
 | _ => .skip
theorem rules_loop (A : AE E) {mv : GVal → Bool} {P : GVal → Prop} (hv : ∀ v, P v → lcall E 111 [v.arg] [] = some (.d (.b (mv v)), [])) {g : Gram} (hg : g.Ok) {p : GProd} (hp : p.Ok) {rs : List GRule} (hl : rs.length ≤ 1000) (hr : ∀ r ∈ rs, r.Ok P) {Q : Ex → St → Prop} {l0 : List (Int × Int)}
  (hno : ∀ tm fr, (rulesF mv g p rs l0).1 = true → Q (.exit 0) ⟨tm, hp5 fr g p (rulesF mv g p rs l0).2⟩) (hyes : ∀ tm fr (j : Nat), (rulesF mv g p rs l0).1 = false → look tm 4 = .d (.i .i64 j) → Q .ret ⟨tm, hp5 fr g p (rulesF mv g p rs l0).2 ++ [none, none, none, none]⟩) :
  ∀ (m i : Nat) (l : List (Int × Int)) (fr : Bool), i + m = rs.length → rulesF mv g p rs l0 = rulesF mv g p (rs.drop i) l →
   LX E ruLoop ⟨[0, 1, 7, 8], [], [], [], [], true⟩ 5 ⟨[(0, .d (.l 10 (rs.map GRule.row))), (1, .fn 227 [] [.ptr 0 0]), (7, .d (.i .i64 rs.length)), (8, .d (.i .i64 i))], hp5 fr g p l⟩ Q := by
 intro m
 induction m with
 | zero =>
  intro i l fr hi he
  have hn : ¬ ((i : Int) < rs.length) := by omega
  rw [List.drop_eq_nil_of_le (by omega)] at he
  simp only [rulesF] at he
  rw [he] at hno
  refine lx_step ?_
  cases fr
  all_goals
   simp only [hp5, bxF, ofDs, List.map_cons, List.map_nil, Bool.false_eq_true, if_false, if_true]
   simp only [evAll, Nat.reduceBEq, ↓reduceIte, Nat.reduceEqDiff, Nat.reduceAdd, Nat.reduceLeDiff, Nat.reduceSub, Nat.reduceLT, reduceCtorEq, Int.reduceEq, Int.reduceLT, Int.reduceLE, Int.reduceNeg, loopQ, Int.reduceToNat, Nat.reduceMul, List.range'_one, ruLoop, c235, hn]
  ·exact hno _ false rfl
  ·exact hno _ true rfl
 | succ m ih =>
  intro i l fr hi he
  have hy : (i : Int) < rs.length := by omega
  have la : i < rs.length := by omega
  have h0 : (0 : Int) ≤ i := by omega
  have ga : (rs.map GRule.row)[i]? = some (GRule.row rs[i]) := by rw [List.getElem?_map, List.getElem?_eq_getElem la]; rfl
  have w : IntKind.i64.wrap ((i : Int) + 1) = ((i + 1 : Nat) : Int) := by rw [i64w (by omega) (by omega)]; omega
  have hm := List.getElem_mem la
  have c1 := notrule_ok A hv hg hp (hr _ hm) l fr
  rw [List.drop_eq_getElem_cons la] at he
  simp only [rulesF] at he
  generalize rs[i] = x at *
  generalize ruleB mv g p l x = b2 at *
  cases hpx : ruleAll mv g p l x with
  | false =>
   rw [hpx] at he c1
   rw [if_neg (by simp)] at he
   rw [he] at hyes
   refine lx_step ?_
   cases fr <;> cases b2 <;> simp only [hp4, hp5, bxF, ofDs, List.map_cons, List.map_nil, Bool.or_false, Bool.or_true, Bool.false_or, Bool.true_or, Bool.false_eq_true, if_false, if_true, Bool.not_false] at c1 ⊢
   all_goals
    simp only [evAll, Nat.reduceBEq, ↓reduceIte, Nat.reduceEqDiff, Nat.reduceAdd, Nat.reduceLeDiff, Nat.reduceSub, Nat.reduceLT, reduceCtorEq, Int.reduceEq, Int.reduceLT, Int.reduceLE, Int.reduceNeg, loopQ, Int.reduceToNat, Nat.reduceMul, List.range'_one, ruLoop, c235, eq_true hy, h0, ga, GRule.row, c1, refs_kvP, ren_kvP]
    first | refine hyes _ false i rfl ?_ | refine hyes _ true i rfl ?_
    simp only [evAll, Nat.reduceBEq, ↓reduceIte, Nat.reduceEqDiff, Nat.reduceAdd, Nat.reduceLeDiff, Nat.reduceSub, Nat.reduceLT, reduceCtorEq, Int.reduceEq, Int.reduceLT, Int.reduceLE, Int.reduceNeg, loopQ, Int.reduceToNat, Nat.reduceMul, List.range'_one]
  | true =>
   rw [hpx, if_pos rfl] at he
   rw [hpx] at c1
   have ih' := fun fr => ih (i + 1) (l.erase x.at_) fr (by omega) he
   refine lx_step ?_
   cases fr <;> cases b2 <;> simp only [hp4, hp5, bxF, ofDs, List.map_cons, List.map_nil, Bool.or_false, Bool.or_true, Bool.false_or, Bool.true_or, Bool.false_eq_true, if_false, if_true, Bool.not_true] at c1 ⊢
   all_goals
    simp only [evAll, Nat.reduceBEq, ↓reduceIte, Nat.reduceEqDiff, Nat.reduceAdd, Nat.reduceLeDiff, Nat.reduceSub, Nat.reduceLT, reduceCtorEq, Int.reduceEq, Int.reduceLT, Int.reduceLE, Int.reduceNeg, loopQ, Int.reduceToNat, Nat.reduceMul, List.range'_one, ruLoop, c235, eq_true hy, h0, ga, GRule.row, c1, w, refs_kvP, ren_kvP, under_kvP, norm_kvP]
    first | exact ⟨_, rfl, ih' false⟩ | exact ⟨_, rfl, ih' true⟩
def RuQ (b : Bool) (g : Gram) (p : GProd) (l : List (Int × Int)) (x : V × List (Option Obj)) : Prop := ∃ fr, ∃ j : Int, decide (j ≥ 0) = !b ∧ x = (.d (.i .i64 j), hp5 fr g p l)
theorem rulesIdx_ok (A : AE E) {mv : GVal → Bool} {P : GVal → Prop} (hv : ∀ v, P v → lcall E 111 [v.arg] [] = some (.d (.b (mv v)), [])) {g : Gram} (hg : g.Ok) {p : GProd} (hp : p.Ok) {rs : List GRule} (hl : rs.length ≤ 1000) (hr : ∀ r ∈ rs, r.Ok P) (l : List (Int × Int)) :
  ∃ fr, ∃ j : Int, decide (j ≥ 0) = !(rulesF mv g p rs l).1 ∧ lcall E 235 [.d (.l 10 (rs.map GRule.row)), .fn 227 [] [.ptr 0 0]] (hp5 false g p l) = some (.d (.i .i64 j), hp5 fr g p (rulesF mv g p rs l).2) := by
 have hw := call_qP (E := E) (key := 235) (args := [.d (.l 10 (rs.map GRule.row)), .fn 227 [] [.ptr 0 0]]) (hp := hp5 false g p l) (R := RuQ (rulesF mv g p rs l).1 g p (rulesF mv g p rs l).2) A.e235 ?_
 ·obtain ⟨x, hx, fr, j, h1, rfl⟩ := hw
  exact ⟨fr, j, h1, hx⟩
 ·simp only [hp5, bxF, ofDs, List.map_cons, List.map_nil, Bool.false_eq_true, if_false, if_true]
  simp only [evAll, Nat.reduceBEq, ↓reduceIte, Nat.reduceEqDiff, Nat.reduceAdd, Nat.reduceLeDiff, Nat.reduceSub, Nat.reduceLT, reduceCtorEq, Int.reduceEq, Int.reduceLT, Int.reduceLE, Int.reduceNeg, loopQ, Int.reduceToNat, Nat.reduceMul, List.range'_one, c235, List.length_map]
  refine rules_loop A hv hg hp hl hr (l0 := l) (fun tm fr h => ?_) (fun tm fr j h h4 => ?_) rs.length 0 l false (by omega) rfl
  ·cases fr
   all_goals
    simp only [hp5, bxF, ofDs, List.map_cons, List.map_nil, Bool.false_eq_true, if_false, if_true]
    simp only [evAll, Nat.reduceBEq, ↓reduceIte, Nat.reduceEqDiff, Nat.reduceAdd, Nat.reduceLeDiff, Nat.reduceSub, Nat.reduceLT, reduceCtorEq, Int.reduceEq, Int.reduceLT, Int.reduceLE, Int.reduceNeg, loopQ, Int.reduceToNat, Nat.reduceMul, List.range'_one, c235, refs_kvP, ren_kvP]
    first | exact ⟨false, -1, by rw [h]; rfl, rfl⟩ | exact ⟨true, -1, by rw [h]; rfl, rfl⟩
  ·cases fr
   all_goals
    simp only [hp5, bxF, ofDs, List.map_cons, List.map_nil, Bool.false_eq_true, if_false, if_true, List.cons_append, List.nil_append]
    simp only [evAll, Nat.reduceBEq, ↓reduceIte, Nat.reduceEqDiff, Nat.reduceAdd, Nat.reduceLeDiff, Nat.reduceSub, Nat.reduceLT, reduceCtorEq, Int.reduceEq, Int.reduceLT, Int.reduceLE, Int.reduceNeg, loopQ, Int.reduceToNat, Nat.reduceMul, List.range'_one, c235, h4, refs_kvP, ren_kvP]
    first | exact ⟨false, j, by rw [h]; simp, rfl⟩ | exact ⟨true, j, by rw [h]; simp, rfl⟩
abbrev hpA (fr : Bool) (g : Gram) (p : GProd) (l : List (Int × Int)) : List (Option Obj) := [some (.box [.map 3]), bxF fr p.cells, bxF fr g.cells, some (.map (l.map kvP))]
theorem rulesC_ok (A : AE E) {mv : GVal → Bool} {P : GVal → Prop} (hv : ∀ v, P v → lcall E 111 [v.arg] [] = some (.d (.b (mv v)), [])) {g : Gram} (hg : g.Ok) {p : GProd} (hp : p.Ok) {rs : List GRule} (hl : rs.length ≤ 1000) (hr : ∀ r ∈ rs, r.Ok P) (l : List (Int × Int)) :
  ∃ fr, lcall E 226 [.d (.l 10 (rs.map GRule.row)), .fn 227 [] [.ptr 0 0]] (hp5 false g p l) = some (.d (.b (!(rulesF mv g p rs l).1)), hp5 fr g p (rulesF mv g p rs l).2) := by
 obtain ⟨fr, j, hj, c1⟩ := rulesIdx_ok A hv hg hp hl hr l
 refine ⟨fr, ?_⟩
 rw [← hj]
 refine call_q A.e226 ?_
 cases fr
 all_goals
  simp only [hp5, bxF, ofDs, List.map_cons, List.map_nil, Bool.false_eq_true, if_false, if_true] at c1 ⊢
  simp only [evAll, Nat.reduceBEq, ↓reduceIte, Nat.reduceEqDiff, Nat.reduceAdd, Nat.reduceLeDiff, Nat.reduceSub, Nat.reduceLT, reduceCtorEq, Int.reduceEq, Int.reduceLT, Int.reduceLE, Int.reduceNeg, loopQ, Int.reduceToNat, Nat.reduceMul, List.range'_one, c226, c1, refs_kvP, ren_kvP]
theorem rules_ok (A : AE E) {mv : GVal → Bool} {P : GVal → Prop} (hv : ∀ v, P v → lcall E 111 [v.arg] [] = some (.d (.b (mv v)), [])) {g : Gram} (hg : g.Ok) {p : GProd} (hp : p.Ok) {rs : List GRule} (hl : rs.length ≤ 1000) (hr : ∀ r ∈ rs, r.Ok P) (l : List (Int × Int)) :
  ∃ fr, lcall E 208 [.d (.l 10 (rs.map GRule.row)), .fn 209 [] [.ptr 0 0, .ptr 1 0, .ptr 2 0]] (hp4 false g p l) = some (.d (.b (rulesF mv g p rs l).1), hp4 fr g p (rulesF mv g p rs l).2) := by
 obtain ⟨fr, c1⟩ := rulesC_ok A hv hg hp hl hr l
 refine ⟨fr, ?_⟩
 refine call_q A.e208 ?_
 cases fr
 all_goals
  simp only [hp4, hp5, bxF, ofDs, List.map_cons, List.map_nil, Bool.false_eq_true, if_false, if_true] at c1 ⊢
  simp only [evAll, Nat.reduceBEq, ↓reduceIte, Nat.reduceEqDiff, Nat.reduceAdd, Nat.reduceLeDiff, Nat.reduceSub, Nat.reduceLT, reduceCtorEq, Int.reduceEq, Int.reduceLT, Int.reduceLE, Int.reduceNeg, loopQ, Int.reduceToNat, Nat.reduceMul, List.range'_one, c208, evF, List.all_cons, List.all_nil, Option.isSome_some, c1, refs_kvP, ren_kvP, Bool.not_not]
def prodF (mv : GVal → Bool) (g : Gram) (p : GProd) : Bool := (rulesF mv g p p.rules (wantsF g p)).1 && (rulesF mv g p p.rules (wantsF g p)).2.isEmpty
theorem prod_ok (A : AE E) {mv : GVal → Bool} {P : GVal → Prop} (hv : ∀ v, P v → lcall E 111 [v.arg] [] = some (.d (.b (mv v)), [])) {g : Gram} (hg : g.Ok) {p : GProd} (hp : p.Ok) (hr : ∀ r ∈ p.rules, r.Ok P) :
  lcall E 187 [g.arg, p.arg] [] = some (.d (.b (prodF mv g p)), []) := by
 obtain ⟨fr, c1⟩ := rules_ok A hv hg hp hp.rules hr (wantsF g p)
 have c2 := wants_ok A hg hp
 unfold prodF
 generalize (rulesF mv g p p.rules (wantsF g p)).1 = b at *
 generalize (rulesF mv g p p.rules (wantsF g p)).2 = l at *
 refine call_q A.e187 ?_
 cases fr <;> cases b
 all_goals
  simp only [hp4, bxF, ofDs, List.map_cons, List.map_nil, Bool.false_eq_true, if_false, if_true] at c1
  simp only [evAll, Nat.reduceBEq, ↓reduceIte, Nat.reduceEqDiff, Nat.reduceAdd, Nat.reduceLeDiff, Nat.reduceSub, Nat.reduceLT, reduceCtorEq, Int.reduceEq, Int.reduceLT, Int.reduceLE, Int.reduceNeg, loopQ, Int.reduceToNat, Nat.reduceMul, List.range'_one, c187, evF, List.all_cons, List.all_nil, Option.isSome_some, c1, c2, refs_kvP, ren_kvP]
 all_goals (cases l <;> simp; try omega)
structure GProd.Good (P : GVal → Prop) (p : GProd) : Prop where
 ok : p.Ok
 rules : ∀ r ∈ p.rules, r.Ok P
def startF (g : Gram) : Bool := match g.nts with | n :: _ => n.inh.isEmpty | [] => false
def amayF (mv : GVal → Bool) (g : Gram) : Bool := gmayF g && (startF g && !g.prods.any fun p => !prodF mv g p)
theorem gmay_nts {g : Gram} (h : gmayF g = true) : ∃ n r, g.nts = n :: r := by
 cases hn : g.nts with
 | nil => simp [gmayF, hn] at h
 | cons n r => exact ⟨n, r, rfl⟩
theorem amay_ok (A : AE E) {mv : GVal → Bool} {P : GVal → Prop} (hv : ∀ v, P v → lcall E 111 [v.arg] [] = some (.d (.b (mv v)), [])) {g : Gram} (hg : g.Ok) (hp : ∀ p ∈ g.prods, p.Good P) :
  lcall E 169 [g.arg] [] = some (.d (.b (amayF mv g)), []) := by
 have c1 := gmay_ok A hg
 have hc1 : ∀ p ∈ g.prods, lcall E 186 [p.arg, .d (.q g.cells 0)] [] = some (.d (.b (prodF mv g p)), []) := fun p h => by
  have c := prod_ok A hv hg (hp p h).ok (hp p h).rules
  refine call_q A.e186 ?_
  simp only [evAll, Nat.reduceBEq, ↓reduceIte, Nat.reduceEqDiff, Nat.reduceAdd, Nat.reduceLeDiff, Nat.reduceSub, Nat.reduceLT, reduceCtorEq, Int.reduceEq, Int.reduceLT, Int.reduceLE, Int.reduceNeg, loopQ, Int.reduceToNat, Nat.reduceMul, List.range'_one, c186, c, ofDs, List.map_cons, List.map_nil]
 have hc : ∀ p ∈ g.prods, lcall E 206 (rowV true p.row :: ofDs [.q [.f 186 [] [.q g.cells 0]] 0]) [] = some (.d (.b (!prodF mv g p)), []) := fun p h => by
  have c := hc1 p h
  show lcall E 206 [p.arg, .d (.q [.f 186 [] [.q g.cells 0]] 0)] [] = _
  refine call_q A.e206 ?_
  simp only [evAll, Nat.reduceBEq, ↓reduceIte, Nat.reduceEqDiff, Nat.reduceAdd, Nat.reduceLeDiff, Nat.reduceSub, Nat.reduceLT, reduceCtorEq, Int.reduceEq, Int.reduceLT, Int.reduceLE, Int.reduceNeg, loopQ, Int.reduceToNat, Nat.reduceMul, List.range'_one, c206, c, ofDs, List.map_cons, List.map_nil]
 have c5 := cont_ok (E := E) (key := 203) (ki := 221) (sz := 3) (ag := true) A.e203 A.e221 (fun h => by cases h) (l := g.prods) (enc := GProd.row) (p := fun p => !prodF mv g p) (k := 206) (c := [.q [.f 186 [] [.q g.cells 0]] 0]) (by have := hg.prods; omega) (fun _ _ => rfl) hc
 have c6 : lcall E 185 [.d (.l 3 (g.prods.map GProd.row)), .d (.f 186 [] [.q g.cells 0])] [] = some (.d (.b (!g.prods.any fun p => !prodF mv g p)), []) := by
  refine call_q A.e185 ?_
  simp only [evAll, Nat.reduceBEq, ↓reduceIte, Nat.reduceEqDiff, Nat.reduceAdd, Nat.reduceLeDiff, Nat.reduceSub, Nat.reduceLT, reduceCtorEq, Int.reduceEq, Int.reduceLT, Int.reduceLE, Int.reduceNeg, loopQ, Int.reduceToNat, Nat.reduceMul, List.range'_one, c185, c5, ofDs, List.map_cons, List.map_nil]
 refine call_q A.e169 ?_
 unfold amayF
 cases b1 : gmayF g
 ·rw [b1] at c1
  simp only [evAll, Nat.reduceBEq, ↓reduceIte, Nat.reduceEqDiff, Nat.reduceAdd, Nat.reduceLeDiff, Nat.reduceSub, Nat.reduceLT, reduceCtorEq, Int.reduceEq, Int.reduceLT, Int.reduceLE, Int.reduceNeg, loopQ, Int.reduceToNat, Nat.reduceMul, List.range'_one, c169, c1]
 obtain ⟨n, r, hn⟩ := gmay_nts b1
 rw [b1] at c1
 have ga : (g.nts.map GNt.row)[0]? = some [.s n.name, .l 1 (n.inh.map strRow), .l 1 (n.syn.map strRow)] := by rw [hn]; rfl
 have z0 : (0 : Int) ≤ 0 := Int.le_refl 0
 have sf : startF g = n.inh.isEmpty := by simp only [startF, hn]
 rw [sf]
 cases hi : n.inh with
 | nil =>
  rw [hi] at ga
  simp only [evAll, Nat.reduceBEq, ↓reduceIte, Nat.reduceEqDiff, Nat.reduceAdd, Nat.reduceLeDiff, Nat.reduceSub, Nat.reduceLT, reduceCtorEq, Int.reduceEq, Int.reduceLT, Int.reduceLE, Int.reduceNeg, loopQ, Int.reduceToNat, Nat.reduceMul, List.range'_one, c169, c1, c6, ga, eq_true z0, ofDs, List.map_cons, List.map_nil, List.length_nil, List.isEmpty_nil]
 | cons a b =>
  rw [hi] at ga
  have h0 : ¬ (((b.length + 1 : Nat) : Int) = 0) := by omega
  simp only [evAll, Nat.reduceBEq, ↓reduceIte, Nat.reduceEqDiff, Nat.reduceAdd, Nat.reduceLeDiff, Nat.reduceSub, Nat.reduceLT, reduceCtorEq, Int.reduceEq, Int.reduceLT, Int.reduceLE, Int.reduceNeg, loopQ, Int.reduceToNat, Nat.reduceMul, List.range'_one, c169, c1, c6, ga, eq_true z0, ofDs, List.map_cons, List.map_nil, List.length_cons, List.length_map, List.isEmpty_cons, h0]
abbrev pk (l : List UInt8) (n : Nat) : Option Obj := some (.box [.d (.l 1 (byteRow l)), .d (.i .i64 n)])
theorem made_ok (A : PE E) (l : List UInt8) : lcall E 108 [.d (.l 1 (byteRow l))] [] = some (.ptr 0 0, [pk l 0]) := by
 refine call_q A.e108 ?_
 simp only [evAll, Nat.reduceBEq, ↓reduceIte, Nat.reduceEqDiff, Nat.reduceAdd, Nat.reduceLeDiff, Nat.reduceSub, Nat.reduceLT, reduceCtorEq, Int.reduceEq, Int.reduceLT, Int.reduceLE, Int.reduceNeg, loopQ, Int.reduceToNat, Nat.reduceMul, List.range'_one, c108]
 rfl
theorem num_ok (A : PE E) {l : List UInt8} (hl : l.length ≤ 1000) {n : Nat} (hn : n ≤ l.length) {m : Int} (h0 : 0 < m) (h1 : m ≤ 1000) :
  ∃ r n' : Nat, (r : Int) < m ∧ n' ≤ l.length ∧ lcall E 123 [.ptr 0 0, .d (.i .i64 m)] [pk l n] = some (.d (.i .i64 r), [pk l n']) := by
 have hb := byteRow_length l
 by_cases he : n = l.length
 ·refine ⟨0, n, by omega, hn, ?_⟩
  have g : (n : Int) ≥ l.length := by omega
  refine call_q A.e123 ?_
  simp only [evAll, Nat.reduceBEq, ↓reduceIte, Nat.reduceEqDiff, Nat.reduceAdd, Nat.reduceLeDiff, Nat.reduceSub, Nat.reduceLT, reduceCtorEq, Int.reduceEq, Int.reduceLT, Int.reduceLE, Int.reduceNeg, loopQ, Int.reduceToNat, Nat.reduceMul, List.range'_one, c123, hb, eq_true g]
  rfl
 ·have la : n < l.length := by omega
  have g : ¬ (n : Int) ≥ l.length := by omega
  have w : IntKind.i64.wrap ((n : Int) + 1) = ((n + 1 : Nat) : Int) := by rw [i64w (by omega) (by omega)]; omega
  have w2 : IntKind.i64.wrap (((n + 1 : Nat) : Int) - 1) = (n : Int) := by rw [i64w (by omega) (by omega)]; omega
  have ga : (byteRow l)[n]? = some [.i .u8 l[n].toNat] := by rw [byteRow_get, List.getElem?_eq_getElem la]; rfl
  have hx : l[n].toNat < 256 := l[n].toBitVec.isLt
  generalize l[n].toNat = x at *
  have w3 : IntKind.i64.wrap (x : Int) = x := i64w (by omega) (by omega)
  have m0 : m ≠ 0 := by omega
  have h2 := Int.tmod_lt_of_pos (x : Int) h0
  have h3 := Int.tmod_nonneg m (a := (x : Int)) (by omega)
  obtain ⟨r, hr⟩ : ∃ r : Nat, Int.tmod (x : Int) m = (r : Int) := ⟨(Int.tmod (x : Int) m).toNat, by omega⟩
  have z0 : (0 : Int) ≤ n := by omega
  refine ⟨r, n + 1, by omega, by omega, ?_⟩
  refine call_q A.e123 ?_
  simp only [evAll, Nat.reduceBEq, ↓reduceIte, Nat.reduceEqDiff, Nat.reduceAdd, Nat.reduceLeDiff, Nat.reduceSub, Nat.reduceLT, reduceCtorEq, Int.reduceEq, Int.reduceLT, Int.reduceLE, Int.reduceNeg, loopQ, Int.reduceToNat, Nat.reduceMul, List.range'_one, c123, hb, g, w, w2, ga, w3, m0, hr, eq_true z0]
  exact ⟨by rfl, rfl⟩
theorem rcount_ok (A : PE E) {g : Gram} (hg : g.Ok) (i : Int) : lcall E 173 [g.arg, .d (.i .i64 i)] [] = some (.d (.i .i64 (countF g i)), []) := by
 have hb := ntA_ok hg i
 have w : IntKind.i64.wrap (((ntA g i).inh.length : Int) + ((ntA g i).syn.length : Int)) = countF g i := by unfold countF; exact i64w (by omega) (by omega)
 have hl := hg.nts
 refine call_q A.e173 ?_
 by_cases h0 : i < 0
 ·have : countF g i = 0 := by simp [countF, ntA, noNt, show ¬ 0 ≤ i by omega]
  rw [this]
  simp only [evAll, Nat.reduceBEq, ↓reduceIte, Nat.reduceEqDiff, Nat.reduceAdd, Nat.reduceLeDiff, Nat.reduceSub, Nat.reduceLT, reduceCtorEq, Int.reduceEq, Int.reduceLT, Int.reduceLE, Int.reduceNeg, loopQ, Int.reduceToNat, Nat.reduceMul, List.range'_one, c173, eq_true h0]
 ·by_cases h1 : i ≥ (g.nts.length : Int)
  ·have : countF g i = 0 := by
    have e : g.nts[i.toNat]? = none := List.getElem?_eq_none (by omega)
    simp [countF, ntA, noNt, e]
   rw [this]
   simp only [evAll, Nat.reduceBEq, ↓reduceIte, Nat.reduceEqDiff, Nat.reduceAdd, Nat.reduceLeDiff, Nat.reduceSub, Nat.reduceLT, reduceCtorEq, Int.reduceEq, Int.reduceLT, Int.reduceLE, Int.reduceNeg, loopQ, Int.reduceToNat, Nat.reduceMul, List.range'_one, c173, h0, List.length_map, eq_true h1]
  ·obtain ⟨x, hx, _⟩ := get_at (l := g.nts) (i := i) (by omega) (by omega)
   have e : ntA g i = x := by simp [ntA, hx, show 0 ≤ i by omega]
   have ga : (g.nts.map GNt.row)[i.toNat]? = some [.s x.name, .l 1 (x.inh.map strRow), .l 1 (x.syn.map strRow)] := by rw [List.getElem?_map, hx]; rfl
   have z : 0 ≤ i := by omega
   rw [e] at w
   simp only [evAll, Nat.reduceBEq, ↓reduceIte, Nat.reduceEqDiff, Nat.reduceAdd, Nat.reduceLeDiff, Nat.reduceSub, Nat.reduceLT, reduceCtorEq, Int.reduceEq, Int.reduceLT, Int.reduceLE, Int.reduceNeg, loopQ, Int.reduceToNat, Nat.reduceMul, List.range'_one, c173, h0, List.length_map, h1, ga, eq_true z, w]
   rfl
theorem risinh_ok (A : PE E) {g : Gram} (hg : g.Ok) (i a : Int) : lcall E 174 [g.arg, .d (.i .i64 i), .d (.i .i64 a)] [] = some (.d (.b (isInhF g i a)), []) := by
 refine call_q A.e174 ?_
 by_cases h0 : i ≥ 0
 ·by_cases h1 : i < (g.nts.length : Int)
  ·obtain ⟨x, hx, _⟩ := get_at (l := g.nts) (i := i) (by omega) (by omega)
   have e : ntA g i = x := by simp [ntA, hx, show 0 ≤ i by omega]
   have ga : (g.nts.map GNt.row)[i.toNat]? = some [.s x.name, .l 1 (x.inh.map strRow), .l 1 (x.syn.map strRow)] := by rw [List.getElem?_map, hx]; rfl
   have z : 0 ≤ i := by omega
   unfold isInhF
   rw [e]
   by_cases h2 : a ≥ 0
   ·have h2' : 0 ≤ a := h2
    simp only [evAll, Nat.reduceBEq, ↓reduceIte, Nat.reduceEqDiff, Nat.reduceAdd, Nat.reduceLeDiff, Nat.reduceSub, Nat.reduceLT, reduceCtorEq, Int.reduceEq, Int.reduceLT, Int.reduceLE, Int.reduceNeg, loopQ, Int.reduceToNat, Nat.reduceMul, List.range'_one, c174, eq_true h0, List.length_map, eq_true h1, ga, eq_true z, eq_true h2, decide_eq_true h2']
   ·have h2' : ¬ 0 ≤ a := h2
    simp only [evAll, Nat.reduceBEq, ↓reduceIte, Nat.reduceEqDiff, Nat.reduceAdd, Nat.reduceLeDiff, Nat.reduceSub, Nat.reduceLT, reduceCtorEq, Int.reduceEq, Int.reduceLT, Int.reduceLE, Int.reduceNeg, loopQ, Int.reduceToNat, Nat.reduceMul, List.range'_one, c174, eq_true h0, List.length_map, eq_true h1, ga, eq_true z, h2, decide_eq_false h2']
  ·have : isInhF g i a = false := by
    have e : g.nts[i.toNat]? = none := List.getElem?_eq_none (by omega)
    simp [isInhF, ntA, noNt, e]
   rw [this]
   simp only [evAll, Nat.reduceBEq, ↓reduceIte, Nat.reduceEqDiff, Nat.reduceAdd, Nat.reduceLeDiff, Nat.reduceSub, Nat.reduceLT, reduceCtorEq, Int.reduceEq, Int.reduceLT, Int.reduceLE, Int.reduceNeg, loopQ, Int.reduceToNat, Nat.reduceMul, List.range'_one, c174, eq_true h0, List.length_map, h1]
 ·have : isInhF g i a = false := by
   simp [isInhF, ntA, noNt, show ¬ 0 ≤ i by omega]
  rw [this]
  simp only [evAll, Nat.reduceBEq, ↓reduceIte, Nat.reduceEqDiff, Nat.reduceAdd, Nat.reduceLeDiff, Nat.reduceSub, Nat.reduceLT, reduceCtorEq, Int.reduceEq, Int.reduceLT, Int.reduceLE, Int.reduceNeg, loopQ, Int.reduceToNat, Nat.reduceMul, List.range'_one, c174, h0]
def numE (x : Int) : Exp := .mk 0 (.mk 1 x [] []) 0 0 []
def refE (o a : Int) : Exp := .mk 1 (.mk 0 0 [] []) o a []
def textE (o : Int) : Exp := .mk 2 (.mk 0 0 [] []) o 0 []
theorem con_ok (A : PE E) (x : Int) : lcall E 188 [.agg [.d (.i .i64 1), .d (.i .i64 x), .d (.s []), .nil 4]] [] = some ((numE x).arg, []) := by
 refine call_q A.e188 ?_
 simp only [evAll, Nat.reduceBEq, ↓reduceIte, Nat.reduceEqDiff, Nat.reduceAdd, Nat.reduceLeDiff, Nat.reduceSub, Nat.reduceLT, reduceCtorEq, Int.reduceEq, Int.reduceLT, Int.reduceLE, Int.reduceNeg, loopQ, Int.reduceToNat, Nat.reduceMul, List.range'_one, c188]
 rfl
theorem ref_ok (A : PE E) (o a : Int) : lcall E 189 [.d (.i .i64 o), .d (.i .i64 a)] [] = some ((refE o a).arg, []) := by
 refine call_q A.e189 ?_
 simp only [evAll, Nat.reduceBEq, ↓reduceIte, Nat.reduceEqDiff, Nat.reduceAdd, Nat.reduceLeDiff, Nat.reduceSub, Nat.reduceLT, reduceCtorEq, Int.reduceEq, Int.reduceLT, Int.reduceLE, Int.reduceNeg, loopQ, Int.reduceToNat, Nat.reduceMul, List.range'_one, c189]
 rfl
def rL0 : CCode := match c183.body with
 | .seq _ (.seq _ (.seq _ (.seq (.seq _ (.block _ (.loop _ c))) _))) => c
 | _ => .skip
def rL2 : CCode := match rL0 with
 | .seq _ (.seq (.block _ (.seq _ (.seq _ (.seq _ (.block _ (.loop _ c)))))) _) => c
 | _ => .skip
inductive InOk (g : Gram) (p : GProd) : Exp → Prop
 | ref (o a : Int) : inF g p (o, a) = true → InOk g p (refE o a)
 | text (o : Int) : badText p 2 o = false → InOk g p (textE o)
abbrev zRow (x : Int × Int) : List V := [.d (.i .i64 x.1), .d (.i .i64 x.2), .d (.i .i64 0), .d (.i .i64 0), .d (.i .i64 0), .d (.s []), .nil 4, .d (.i .i64 0), .d (.i .i64 0), .nil 8]
abbrev hpR (l : List UInt8) (n : Nat) (g : Gram) (p : GProd) (outs : List (Int × Int)) : List (Option Obj) := [pk l n, bxG g, bxP p, some (.tok 0 8), some (.arr outs.length 10 (outs.map zRow))]
def apaY2 (sz ver off len : Nat) : Option Obj → Option (List (List V))
 | some (.arr ver' sz' xs) => if ver = ver' ∧ sz' = sz ∧ off + len ≤ xs.length then some ((xs.drop off).take len) else none
 | _ => none
theorem evB :
  (∀ (sz n : Nat) (z : List D) (m : List (Nat × A)), Cop.nmk (.bsa sz n z m) = 1) ∧
  (∀ (sz : Nat) (hp : List (Option Obj)) (id ver off len : Nat), apaY sz hp (.arr id ver off len) = apaY2 sz ver off len (objT hp id)) ∧
  (∀ (sz ver off len ver' sz' : Nat) (xs : List (List V)), apaY2 sz ver off len (some (.arr ver' sz' xs)) = if ver = ver' ∧ sz' = sz ∧ off + len ≤ xs.length then some ((xs.drop off).take len) else none) ∧
  (∀ (i id ver off len : Nat), V.other i (.arr id ver off len) = decide (id ≠ i)) ∧
  (∀ (id ver off len : Nat), iaIds (.arr id ver off len) = [id]) ∧
  (∀ (a : List V), ([a] : List (List V)).take 1 = [a]) := by
 refine ⟨fun _ _ _ _ => rfl, ?_, fun _ _ _ _ _ _ _ => rfl, fun _ _ _ _ _ => rfl, fun _ _ _ _ => rfl, fun _ => rfl⟩
 intro sz hp id ver off len
 show arrMore sz (.arr id ver off len) [objT hp id] = _
 cases objT hp id with
 | none => rfl
 | some o => cases o <;> rfl
theorem und_z (n : Nat) : ∀ (l : List (Int × Int)), underRows n (l.map zRow) = true
 | [] => rfl
 | y :: r => by
  have := und_z n r
  simp only [List.map_cons, underRows, this, Bool.and_true]
  rfl
theorem nrm_z (h : List (Option Obj)) (l : List (Int × Int)) : (l.map zRow).map (fun r => r.map (normC h)) = l.map zRow := by
 rw [List.map_map]
 apply List.map_congr_left
 intro x _
 rfl
theorem exp_row' (e : Exp) : [D.i IntKind.i64 e.op, D.i IntKind.i64 e.v.kind, D.i IntKind.i64 e.v.i, D.s e.v.s, D.l 4 (gvalRows e.v.l), D.i IntKind.i64 e.occ, D.i IntKind.i64 e.attr, D.l 8 (e.args.map Exp.row)] = e.row := (exp_row e).symm
theorem ins_snoc (l : List Exp) (e : Exp) : l.map Exp.row ++ [e.row] = (l ++ [e]).map Exp.row := by simp
theorem outs_snoc (l : List (Int × Int)) (a b : Int) : l.map zRow ++ [[.d (.i .i64 a), .d (.i .i64 b), .d (.i .i64 0), .d (.i .i64 0), .d (.i .i64 0), .d (.s []), .nil 4, .d (.i .i64 0), .d (.i .i64 0), .nil 8]] = (l ++ [(a, b)]).map zRow := by simp
theorem r_in (A : PE E) {g : Gram} (hg : g.Ok) {p : GProd} (hp : p.Ok) {l : List UInt8} {n : Nat} {i : Nat} {nt : Int} (hi : i ≤ 5) (hnt : occF p (i : Int) = (nt, true)) {c : Nat} (hc : countF g nt = (c : Int)) (hc4 : c ≤ 4) {Q : Ex → St → Prop} :
  ∀ (m a : Nat) (ins : List Exp) (outs : List (Int × Int)), a + m = c → ins.length + m ≤ 100 → outs.length + m ≤ 100 → (∀ e ∈ ins, InOk g p e) →
  (∀ tm (ins' : List Exp), ins'.length ≤ ins.length + m → (∀ e ∈ ins', InOk g p e) → look tm 0 = .ptr 0 0 → look tm 4 = .ptr 1 0 → look tm 5 = .ptr 2 0 → look tm 7 = .arr 4 (outs ++ wRow g p i a m).length 0 (outs ++ wRow g p i a m).length → look tm 8 = .own 3 0 8 (ins'.map Exp.row) → look tm 9 = .d (.i .i64 i) →
   Q (.exit 2) ⟨tm, hpR l n g p (outs ++ wRow g p i a m)⟩) →
  LX E rL2 ⟨[0, 4, 5, 7, 8, 9, 10, 11], [8], [(7, 0)], [], [], true⟩ 5 ⟨[(0, .ptr 0 0), (4, .ptr 1 0), (5, .ptr 2 0), (7, .arr 4 outs.length 0 outs.length), (8, .own 3 0 8 (ins.map Exp.row)), (9, .d (.i .i64 i)), (10, .d (.i .i64 nt)), (11, .d (.i .i64 a))], hpR l n g p outs⟩ Q := by
 have c1 := rcount_ok A hg nt
 rw [hc] at c1
 intro m
 induction m with
 | zero =>
  intro a ins outs ha h1 h2 hin hQ
  have hn : ¬ ((a : Int) < (c : Int)) := by omega
  simp only [wRow, List.append_nil] at hQ
  refine lx_step ?_
  simp only [evAll, Nat.reduceBEq, ↓reduceIte, Nat.reduceEqDiff, Nat.reduceAdd, Nat.reduceLeDiff, Nat.reduceSub, Nat.reduceLT, reduceCtorEq, Int.reduceEq, Int.reduceLT, Int.reduceLE, Int.reduceNeg, loopQ, Int.reduceToNat, Nat.reduceMul, List.range'_one, rL2, rL0, c183, c1, hn]
  exact hQ _ ins (by omega) hin rfl rfl rfl rfl rfl rfl
 | succ m ih =>
  intro a ins outs ha h1 h2 hin hQ
  have hy : (a : Int) < (c : Int) := by omega
  have w : IntKind.i64.wrap ((a : Int) + 1) = ((a + 1 : Nat) : Int) := by rw [i64w (by omega) (by omega)]; omega
  have c2 := risinh_ok A hg nt (a : Int)
  have hw : wantB g p ((i : Int), (a : Int)) = !decide (decide ((i : Int) = 0) = isInhF g nt a) := by
   have e1 : decide ((0 : Int) ≤ (a : Int)) = true := decide_eq_true (by omega)
   have e2 : decide ((a : Int) < (c : Int)) = true := decide_eq_true hy
   simp only [wantB, inF, hnt, hc, Bool.true_and, e1, e2]
   congr 1
   by_cases h : isInhF g nt a = decide ((i : Int) = 0)
   ·rw [h]
   ·rw [decide_eq_false h, decide_eq_false (fun e => h e.symm)]
  have r1 : roomy (ins.length + 1) 104 = true := by unfold roomy; exact decide_eq_true (by omega)
  have r2 : roomy (outs.length + 1) 120 = true := by unfold roomy; exact decide_eq_true (by omega)
  have c3 := ref_ok A (i : Int) (a : Int)
  have hk : outs.length ≤ (outs.map zRow).length := by simp
  have tk : (outs.map zRow).take outs.length = outs.map zRow := List.take_of_length_le (by simp)
  refine lx_step ?_
  cases b : decide (decide ((i : Int) = 0) = isInhF g nt a)
  ·rw [b] at hw
   simp only [evAll, Nat.reduceBEq, ↓reduceIte, Nat.reduceEqDiff, Nat.reduceAdd, Nat.reduceLeDiff, Nat.reduceSub, Nat.reduceLT, reduceCtorEq, Int.reduceEq, Int.reduceLT, Int.reduceLE, Int.reduceNeg, loopQ, Int.reduceToNat, Nat.reduceMul, List.range'_one, rL2, rL0, c183, c1, eq_true hy, c2, b, evZ2, evZ, r1, r2, w, evB, List.length_map, List.length_cons, List.length_nil, und_z, nrm_z, Nat.le_refl, Nat.zero_add, List.drop_zero, tk, ne_eq, outs_snoc]
   have lo : (outs ++ [((i : Int), (a : Int))]).length = outs.length + 1 := by simp
   have ih' := ih (a + 1) ins (outs ++ [((i : Int), (a : Int))]) (by omega) (by omega) (by omega) hin (fun tm ins' k1 k2 k3 k4 k5 k6 k7 k8 => ?_)
   ·simp only [hpR, lo] at ih'
    exact ⟨_, rfl, ih'⟩
   ·have hh : outs ++ wRow g p i a (m + 1) = (outs ++ [((i : Int), (a : Int))]) ++ wRow g p i (a + 1) m := by simp [wRow, hw]
    rw [hh] at hQ
    exact hQ tm ins' (by omega) k2 k3 k4 k5 k6 k7 k8
  ·rw [b] at hw
   have h0 : (0 : Int) ≤ (a : Int) := by omega
   have hin1 : decide (isInhF g nt a = decide ((i : Int) = 0)) = true := decide_eq_true (of_decide_eq_true b).symm
   simp only [evAll, Nat.reduceBEq, ↓reduceIte, Nat.reduceEqDiff, Nat.reduceAdd, Nat.reduceLeDiff, Nat.reduceSub, Nat.reduceLT, reduceCtorEq, Int.reduceEq, Int.reduceLT, Int.reduceLE, Int.reduceNeg, loopQ, Int.reduceToNat, Nat.reduceMul, List.range'_one, rL2, rL0, c183, c1, eq_true hy, c2, c3, b, evZ2, evZ, r1, r2, w, List.length_map, und_z, nrm_z]
   rw [exp_row', ins_snoc]
   refine ⟨_, rfl, ih (a + 1) (ins ++ [refE i a]) outs (by omega) (by simp; omega) (by omega) (fun e he => ?_) (fun tm ins' k1 k2 k3 k4 k5 k6 k7 k8 => ?_)⟩
   ·rcases List.mem_append.1 he with he | he
    ·exact hin e he
    ·rw [List.mem_singleton.1 he]
     refine .ref _ _ ?_
     simp only [inF, hnt, hc, Bool.true_and, hin1, decide_eq_true hy, decide_eq_true h0]
   ·have hh : outs ++ wRow g p i a (m + 1) = outs ++ wRow g p i (a + 1) m := by simp [wRow, hw]
    rw [hh] at hQ
    exact hQ tm ins' (by simp at k1; omega) k2 k3 k4 k5 k6 k7 k8
theorem wRow_no {g : Gram} {p : GProd} {i : Int} (h : (occF p i).2 = false) : ∀ (n a : Nat), wRow g p i a n = []
 | 0, a => rfl
 | n + 1, a => by
  have : wantB g p (i, (a : Int)) = false := by simp only [wantB, h, Bool.false_and]
  simp only [wRow, this, wRow_no h n (a + 1), List.append_nil, Bool.false_eq_true, if_false]
theorem wRow_len (g : Gram) (p : GProd) (i : Int) : ∀ (n a : Nat), (wRow g p i a n).length ≤ n
 | 0, a => Nat.le_refl _
 | n + 1, a => by
  have := wRow_len g p i n (a + 1)
  simp only [wRow, List.length_append]
  split <;> simp <;> omega
theorem r_out (A : PE E) {g : Gram} (hg : g.Ok) {p : GProd} (hp : p.Ok) {l : List UInt8} {n : Nat} (hr : p.right.length ≤ 5) (hc4 : ∀ nt, countF g nt ≤ 4) {Q : Ex → St → Prop} :
  ∀ (m i : Nat) (ins : List Exp) (outs : List (Int × Int)), i + m = p.right.length + 1 → ins.length ≤ 5 * i → outs.length ≤ 5 * i → (∀ e ∈ ins, InOk g p e) →
  (∀ tm (ins' : List Exp), ins'.length ≤ 30 → (∀ e ∈ ins', InOk g p e) → look tm 0 = .ptr 0 0 → look tm 7 = .arr 4 (outs ++ wAll g p i m).length 0 (outs ++ wAll g p i m).length → look tm 8 = .own 3 0 8 (ins'.map Exp.row) → (outs ++ wAll g p i m).length ≤ 30 →
   Q (.exit 0) ⟨tm, hpR l n g p (outs ++ wAll g p i m)⟩) →
  LX E rL0 ⟨[0, 4, 5, 7, 8, 9], [8], [(7, 0)], [], [], true⟩ 5 ⟨[(0, .ptr 0 0), (4, .ptr 1 0), (5, .ptr 2 0), (7, .arr 4 outs.length 0 outs.length), (8, .own 3 0 8 (ins.map Exp.row)), (9, .d (.i .i64 i))], hpR l n g p outs⟩ Q := by
 intro m
 induction m with
 | zero =>
  intro i ins outs hi h1 h2 hin hQ
  have hn : ¬ ((i : Int) ≤ (p.right.length : Int)) := by omega
  simp only [wAll, List.append_nil] at hQ
  refine lx_step ?_
  simp only [evAll, Nat.reduceBEq, ↓reduceIte, Nat.reduceEqDiff, Nat.reduceAdd, Nat.reduceLeDiff, Nat.reduceSub, Nat.reduceLT, reduceCtorEq, Int.reduceEq, Int.reduceLT, Int.reduceLE, Int.reduceNeg, loopQ, Int.reduceToNat, Nat.reduceMul, List.range'_one, rL0, c183, hn, List.length_map]
  exact hQ _ ins (by omega) hin rfl rfl rfl (by omega)
 | succ m ih =>
  intro i ins outs hi h1 h2 hin hQ
  have hy : (i : Int) ≤ (p.right.length : Int) := by omega
  have w : IntKind.i64.wrap ((i : Int) + 1) = ((i + 1 : Nat) : Int) := by rw [i64w (by omega) (by omega)]; omega
  simp only [wAll] at hQ
  have step : ∀ nt, occF p (i : Int) = (nt, true) → LX E rL2 ⟨[0, 4, 5, 7, 8, 9, 10, 11], [8], [(7, 0)], [], [], true⟩ 5 ⟨[(0, .ptr 0 0), (4, .ptr 1 0), (5, .ptr 2 0), (7, .arr 4 outs.length 0 outs.length), (8, .own 3 0 8 (ins.map Exp.row)), (9, .d (.i .i64 i)), (10, .d (.i .i64 nt)), (11, .d (.i .i64 0))], hpR l n g p outs⟩
    (blockQ 2 (blockQ 1 (seqQ E (.region false [⟨some 20, .mv (.t 9), none, 0⟩, ⟨some 21, .bin .add (.t 20) (.k (.d (.i .i64 1))), none, 0⟩, ⟨some 9, .mv (.t 21), none, 0⟩]) (loopQ E rL0 ⟨[0, 4, 5, 7, 8, 9], [8], [(7, 0)], [], [], true⟩ 5 Q)))) := fun nt hnt => by
   have hcn := (count_bound hg nt).1
   obtain ⟨c, hc⟩ : ∃ c : Nat, countF g nt = (c : Int) := ⟨(countF g nt).toNat, by omega⟩
   have hc4' := hc4 nt
   have hQ2 := hQ
   simp only [hnt, hc, Int.toNat_natCast] at hQ2
   refine r_in A hg hp (l := l) (n := n) (i := i) (nt := nt) (by omega) hnt hc (by omega) c 0 ins outs (by omega) (by omega) (by omega) hin (fun tm ins' k1 k2 k0 k4 k5 k7 k8 k9 => ?_)
   have lw := wRow_len g p (i : Int) c 0
   simp only [evAll, Nat.reduceBEq, ↓reduceIte, Nat.reduceEqDiff, Nat.reduceAdd, Nat.reduceLeDiff, Nat.reduceSub, Nat.reduceLT, reduceCtorEq, Int.reduceEq, Int.reduceLT, Int.reduceLE, Int.reduceNeg, loopQ, Int.reduceToNat, Nat.reduceMul, List.range'_one, k0, k4, k5, k7, k8, k9, w, und_z, nrm_z]
   refine ⟨_, rfl, ih (i + 1) ins' (outs ++ wRow g p i 0 c) (by omega) (by omega) (by simp; omega) k2 (fun tm ins2 q1 q2 q3 q4 q5 q6 => ?_)⟩
   have hh : outs ++ (wRow g p i 0 c ++ wAll g p (i + 1) m) = (outs ++ wRow g p i 0 c) ++ wAll g p (i + 1) m := by simp
   rw [hh] at hQ2
   exact hQ2 tm ins2 q1 q2 q3 q4 q5 q6
  refine lx_step ?_
  by_cases h0 : i = 0
  ·subst h0
   have hnt : occF p ((0 : Nat) : Int) = (p.left, true) := by simp [occF]
   have hz : ¬ ((0 : Nat) : Int) > 0 := by omega
   have st := step _ hnt
   simp only [evAll, Nat.reduceBEq, ↓reduceIte, Nat.reduceEqDiff, Nat.reduceAdd, Nat.reduceLeDiff, Nat.reduceSub, Nat.reduceLT, reduceCtorEq, Int.reduceEq, Int.reduceLT, Int.reduceLE, Int.reduceNeg, loopQ, Int.reduceToNat, Nat.reduceMul, List.range'_one, rL0, c183, eq_true hy, hz, List.length_map]
   exact st
  ·have hz : ((i : Nat) : Int) > 0 := by omega
   have w2 : IntKind.i64.wrap ((i : Int) - 1) = ((i - 1 : Nat) : Int) := by rw [i64w (by omega) (by omega)]; omega
   have la : i - 1 < p.right.length := by omega
   have z : (0 : Int) ≤ ((i - 1 : Nat) : Int) := by omega
   have ga : (p.right.map GSym.row)[i - 1]? = some [.b (p.right[i - 1]).tok, .i .i64 (p.right[i - 1]).at_] := by rw [List.getElem?_map, List.getElem?_eq_getElem la]; rfl
   have hoc : occF p (i : Int) = if (p.right[i - 1]).tok then (0, false) else ((p.right[i - 1]).at_, true) := by
    have e1 : ((i : Int) - 1).toNat = i - 1 := by omega
    have g0 : ¬ ((i : Int) < 0 ∨ (i : Int) > (p.right.length : Int)) := by omega
    have g1 : ¬ ((i : Int) = 0) := by omega
    simp only [occF, if_neg g1, if_neg g0, e1, List.getElem?_eq_getElem la]
   cases ht : (p.right[i - 1]).tok
   ·rw [ht] at hoc ga
    simp only [Bool.false_eq_true, if_false] at hoc
    have st := step _ hoc
    simp only [evAll, Nat.reduceBEq, ↓reduceIte, Nat.reduceEqDiff, Nat.reduceAdd, Nat.reduceLeDiff, Nat.reduceSub, Nat.reduceLT, reduceCtorEq, Int.reduceEq, Int.reduceLT, Int.reduceLE, Int.reduceNeg, loopQ, Int.reduceToNat, Nat.reduceMul, List.range'_one, rL0, c183, eq_true hy, eq_true hz, List.length_map, w2, eq_true z, ga, evB]
    exact st
   ·rw [ht] at hoc ga
    simp only [if_true] at hoc
    have r1 : roomy (ins.length + 1) 104 = true := by unfold roomy; exact decide_eq_true (by omega)
    have hbt : badText p 2 (i : Int) = false := by
     have e1 : ((i : Int) - 1).toNat = i - 1 := by omega
     have g0 : ¬ ((i : Int) < 1) := by omega
     have g1 : ¬ ((i : Int) > (p.right.length : Int)) := by omega
     simp only [badText, decide_eq_false g0, decide_eq_false g1, e1, List.getElem?_eq_getElem la, ht, Bool.not_true, Bool.or_self, Bool.and_false]
    have wn : wRow g p i 0 (countF g (occF p i).1).toNat = [] := wRow_no (by rw [hoc]) _ _
    rw [wn] at hQ
    simp only [List.nil_append] at hQ
    simp only [evAll, Nat.reduceBEq, ↓reduceIte, Nat.reduceEqDiff, Nat.reduceAdd, Nat.reduceLeDiff, Nat.reduceSub, Nat.reduceLT, reduceCtorEq, Int.reduceEq, Int.reduceLT, Int.reduceLE, Int.reduceNeg, loopQ, Int.reduceToNat, Nat.reduceMul, List.range'_one, rL0, c183, eq_true hy, eq_true hz, List.length_map, w2, eq_true z, ga, r1, w, und_z, nrm_z]
    have e1 : ins.map Exp.row ++ [[D.i .i64 2, .i .i64 0, .i .i64 0, .s [], .l 4 [], .i .i64 i, .i .i64 0, .l 8 []]] = (ins ++ [textE i]).map Exp.row := by
     simp only [List.map_append, List.map_cons, List.map_nil]; rfl
    rw [e1]
    refine ⟨_, rfl, ih (i + 1) (ins ++ [textE i]) outs (by omega) (by simp; omega) (by omega) (fun e he => ?_) hQ⟩
    rcases List.mem_append.1 he with he | he
    ·exact hin e he
    ·rw [List.mem_singleton.1 he]
     exact .text _ hbt
def rL4 : CCode := match c183.body with
 | .seq _ (.seq _ (.seq _ (.seq _ (.seq (.seq _ (.block _ (.loop _ c))) _)))) => c
 | _ => .skip
def rL6 : CCode := match rL4 with
 | .seq _ (.seq (.block _ (.seq _ (.seq (.seq _ (.block _ (.loop _ c))) _))) _) => c
 | _ => .skip
inductive Built (g : Gram) (p : GProd) : Nat → Exp → Prop
 | num (x : Int) : 0 ≤ x → x < 5 → Built g p 0 (numE x)
 | op {k : Nat} {o : Int} {e i : Exp} : (o = 4 ∨ o = 7 ∨ o = 13 ∨ o = 14) → Built g p k e → InOk g p i → Built g p (k + 1) (.mk o (.mk 0 0 [] []) 0 0 [e, i])
abbrev ecells (e : Exp) : List V := [.d (.i .i64 e.op), .d (.i .i64 e.v.kind), .d (.i .i64 e.v.i), .d (.s e.v.s), .d (.l 4 (gvalRows e.v.l)), .d (.i .i64 e.occ), .d (.i .i64 e.attr), .d (.l 8 (e.args.map Exp.row))]
abbrev hpX (l : List UInt8) (n : Nat) (g : Gram) (p : GProd) (O : Obj) (e : Exp) : List (Option Obj) := [pk l n, bxG g, bxP p, some (.tok 0 8), some O, none, none, none, none, some (.box (ecells e)), none, none, none, none]
theorem r_exp (A : PE E) {g : Gram} {p : GProd} {l : List UInt8} (hl : l.length ≤ 1000) {ins : List Exp} (hi : ins.length ≤ 30) (hin : ∀ e ∈ ins, InOk g p e) {ver : Nat} {rows : List (List V)} (hu : underRows 14 rows = true) (hN : ∀ h, rows.map (fun r => r.map (normC h)) = rows) {v7 v12 : D} {K : Nat} {Q : Ex → St → Prop}
  (hQ : ∀ tm n' e' k, n' ≤ l.length → Built g p k e' → k ≤ 2 → look tm 0 = .ptr 0 0 → look tm 7 = .arr 4 ver 0 K → look tm 8 = .own 3 0 8 (ins.map Exp.row) → look tm 12 = .d v12 → look tm 13 = .ptr 9 0 → Q (.exit 6) ⟨tm, hpX l n' g p (.arr ver 10 rows) e'⟩) :
  ∀ (m n k : Nat) (e : Exp), n ≤ l.length → Built g p k e → k + m ≤ 2 →
  LX E rL6 ⟨[0, 7, 8, 12, 13, 14], [], [], [], [(13, 4), (13, 7)], true⟩ 14 ⟨[(0, .ptr 0 0), (7, .arr 4 ver 0 K), (8, .own 3 0 8 (ins.map Exp.row)), (12, .d v12), (13, .ptr 9 0), (14, .d (.i .i64 m))], hpX l n g p (.arr ver 10 rows) e⟩ Q := by
 intro m
 induction m with
 | zero =>
  intro n k e hn hb hk
  have h0 : ¬ (((0 : Nat) : Int) > 0) := by omega
  refine lx_step ?_
  simp only [evAll, Nat.reduceBEq, ↓reduceIte, Nat.reduceEqDiff, Nat.reduceAdd, Nat.reduceLeDiff, Nat.reduceSub, Nat.reduceLT, reduceCtorEq, Int.reduceEq, Int.reduceLT, Int.reduceLE, Int.reduceNeg, loopQ, Int.reduceToNat, Nat.reduceMul, List.range'_one, rL6, rL4, c183, h0]
  exact hQ _ n e k hn hb (by omega) rfl rfl rfl rfl rfl
 | succ m ih =>
  intro n k e hn hb hk
  have h0 : (((m + 1 : Nat) : Int) > 0) := by omega
  have w : IntKind.i64.wrap (((m + 1 : Nat) : Int) - 1) = (m : Int) := by rw [i64w (by omega) (by omega)]; omega
  refine lx_step ?_
  by_cases hz : (ins.length : Int) > 0
  ·obtain ⟨r1, n1, q1, q2, c1⟩ := num_ok A hl hn (m := 4) (by omega) (by omega)
   obtain ⟨r2, n2, q3, q4, c2⟩ := num_ok A hl q2 (m := (ins.length : Int)) (by omega) (by omega)
   obtain ⟨o, ho, go4⟩ : ∃ o : Int, (o = 4 ∨ o = 7 ∨ o = 13 ∨ o = 14) ∧ ([[.i .i64 4], [.i .i64 7], [.i .i64 13], [.i .i64 14]] : List (List D))[r1]? = some [.i .i64 o] := by
    have : r1 = 0 ∨ r1 = 1 ∨ r1 = 2 ∨ r1 = 3 := by omega
    rcases this with rfl | rfl | rfl | rfl
    ·exact ⟨4, by simp, rfl⟩
    ·exact ⟨7, by simp, rfl⟩
    ·exact ⟨13, by simp, rfl⟩
    ·exact ⟨14, by simp, rfl⟩
   have la : r2 < ins.length := by omega
   have ga : (ins.map Exp.row)[r2]? = some (ins[r2]).row := by rw [List.getElem?_map, List.getElem?_eq_getElem la]; rfl
   have hm := hin _ (List.getElem_mem la)
   generalize ins[r2] = x at *
   rw [exp_row] at ga
   have z1 : (0 : Int) ≤ (r1 : Int) := by omega
   have z2 : (0 : Int) ≤ (r2 : Int) := by omega
   simp only [evAll, Nat.reduceBEq, ↓reduceIte, Nat.reduceEqDiff, Nat.reduceAdd, Nat.reduceLeDiff, Nat.reduceSub, Nat.reduceLT, reduceCtorEq, Int.reduceEq, Int.reduceLT, Int.reduceLE, Int.reduceNeg, loopQ, Int.reduceToNat, Nat.reduceMul, List.range'_one, rL6, rL4, c183, eq_true h0, eq_true hz, List.length_map, c1, c2, go4, ga, eq_true z1, eq_true z2, w, hu, hN, List.length_cons, List.length_nil]
   have e1 : ([[D.i .i64 e.op, .i .i64 e.v.kind, .i .i64 e.v.i, .s e.v.s, .l 4 (gvalRows e.v.l), .i .i64 e.occ, .i .i64 e.attr, .l 8 (e.args.map Exp.row)], [D.i .i64 x.op, .i .i64 x.v.kind, .i .i64 x.v.i, .s x.v.s, .l 4 (gvalRows x.v.l), .i .i64 x.occ, .i .i64 x.attr, .l 8 (x.args.map Exp.row)]] : List (List D)) = [e, x].map Exp.row := by
    simp only [List.map_cons, List.map_nil, exp_row]
   rw [e1]
   exact ⟨by rfl, _, rfl, ih n2 (k + 1) (.mk o (.mk 0 0 [] []) 0 0 [e, x]) q4 (.op ho hb hm) (by omega)⟩
  ·simp only [evAll, Nat.reduceBEq, ↓reduceIte, Nat.reduceEqDiff, Nat.reduceAdd, Nat.reduceLeDiff, Nat.reduceSub, Nat.reduceLT, reduceCtorEq, Int.reduceEq, Int.reduceLT, Int.reduceLE, Int.reduceNeg, loopQ, Int.reduceToNat, Nat.reduceMul, List.range'_one, rL6, rL4, c183, eq_true h0, hz, List.length_map]
   exact hQ _ n e k hn hb (by omega) rfl rfl rfl rfl rfl
abbrev gRow (r : GRule) : List V := [.d (.i .i64 r.occ), .d (.i .i64 r.attr), .d (.i .i64 r.e.op), .d (.i .i64 r.e.v.kind), .d (.i .i64 r.e.v.i), .d (.s r.e.v.s), .d (.l 4 (gvalRows r.e.v.l)), .d (.i .i64 r.e.occ), .d (.i .i64 r.e.attr), .d (.l 8 (r.e.args.map Exp.row))]
theorem gRow_eq (r : GRule) : gRow r = ofDs r.row := rfl
abbrev rRows (rs : List GRule) (outs : List (Int × Int)) : List (List V) := rs.map gRow ++ outs.map zRow
theorem und_app (n : Nat) : ∀ (a b : List (List V)), underRows n (a ++ b) = (underRows n a && underRows n b)
 | [], b => by simp [underRows]
 | x :: a, b => by simp only [List.cons_append, underRows, und_app n a b, Bool.and_assoc]
theorem und_g (n : Nat) : ∀ (l : List GRule), underRows n (l.map gRow) = true
 | [] => rfl
 | y :: r => by
  have := und_g n r
  simp only [List.map_cons, underRows, this, Bool.and_true]
  rfl
theorem nrm_g (h : List (Option Obj)) (l : List GRule) : (l.map gRow).map (fun r => r.map (normC h)) = l.map gRow := by
 rw [List.map_map]
 apply List.map_congr_left
 intro x _
 rfl
theorem und_r (n : Nat) (rs : List GRule) (outs : List (Int × Int)) : underRows n (rRows rs outs) = true := by rw [und_app, und_g, und_z]; rfl
theorem nrm_r (h : List (Option Obj)) (rs : List GRule) (outs : List (Int × Int)) : (rRows rs outs).map (fun r => r.map (normC h)) = rRows rs outs := by rw [List.map_append, nrm_g, nrm_z]
structure Made1 (g : Gram) (p : GProd) (r : GRule) : Prop where
 e : ∃ k, k ≤ 2 ∧ Built g p k r.e
abbrev hpG (l : List UInt8) (n : Nat) (g : Gram) (p : GProd) (K : Nat) (rows : List (List V)) : List (Option Obj) := [pk l n, bxG g, bxP p, some (.tok 0 8), some (.arr K 10 rows)]
theorem con_ok' (A : PE E) (x : Int) : lcall E 188 [.agg [.d (.i .i64 1), .d (.i .i64 x), .d (.s []), .d (.l 4 [])]] [] = some ((numE x).arg, []) := by
 refine call_q A.e188 ?_
 simp only [evAll, Nat.reduceBEq, ↓reduceIte, Nat.reduceEqDiff, Nat.reduceAdd, Nat.reduceLeDiff, Nat.reduceSub, Nat.reduceLT, reduceCtorEq, Int.reduceEq, Int.reduceLT, Int.reduceLE, Int.reduceNeg, loopQ, Int.reduceToNat, Nat.reduceMul, List.range'_one, c188]
 rfl
theorem r_all (A : PE E) {g : Gram} {p : GProd} {l : List UInt8} (hl : l.length ≤ 1000) {ins : List Exp} (hi : ins.length ≤ 30) (hin : ∀ e ∈ ins, InOk g p e) {outs : List (Int × Int)} (ho : outs.length ≤ 30) {Q : Ex → St → Prop}
  (hQ : ∀ tm n' (rs : List GRule), n' ≤ l.length → rs.map GRule.at_ = outs → (∀ r ∈ rs, Made1 g p r) → look tm 7 = .arr 4 outs.length 0 outs.length → Q (.exit 4) ⟨tm, hpG l n' g p outs.length (rs.map gRow)⟩) :
  ∀ (m i n : Nat) (rs : List GRule), i + m = outs.length → rs.length = i → n ≤ l.length → rs.map GRule.at_ = outs.take i → (∀ r ∈ rs, Made1 g p r) →
  LX E rL4 ⟨[0, 7, 8, 12], [], [], [], [], true⟩ 5 ⟨[(0, .ptr 0 0), (7, .arr 4 outs.length 0 outs.length), (8, .own 3 0 8 (ins.map Exp.row)), (12, .d (.i .i64 i))], hpG l n g p outs.length (rRows rs (outs.drop i))⟩ Q := by
 intro m
 induction m with
 | zero =>
  intro i n rs hm hrs hn hat hall
  have h0 : ¬ ((i : Int) < (outs.length : Int)) := by omega
  rw [List.take_of_length_le (by omega)] at hat
  rw [List.drop_eq_nil_of_le (by omega)]
  refine lx_step ?_
  simp only [evAll, Nat.reduceBEq, ↓reduceIte, Nat.reduceEqDiff, Nat.reduceAdd, Nat.reduceLeDiff, Nat.reduceSub, Nat.reduceLT, reduceCtorEq, Int.reduceEq, Int.reduceLT, Int.reduceLE, Int.reduceNeg, loopQ, Int.reduceToNat, Nat.reduceMul, List.range'_one, rL4, c183, h0]
  have e : rRows rs [] = rs.map gRow := by simp [rRows]
  rw [e]
  exact hQ _ n rs hn hat hall rfl
 | succ m ih =>
  intro i n rs hm hrs hn hat hall
  have h0 : (i : Int) < (outs.length : Int) := by omega
  have w : IntKind.i64.wrap ((i : Int) + 1) = ((i + 1 : Nat) : Int) := by rw [i64w (by omega) (by omega)]; omega
  obtain ⟨r1, n1, q1, q2, c1⟩ := num_ok A hl hn (m := 5) (by omega) (by omega)
  obtain ⟨r2, n2, q3, q4, c2⟩ := num_ok A hl q2 (m := 3) (by omega) (by omega)
  have c3 := con_ok A (r1 : Int)
  have c3' := con_ok' A (r1 : Int)
  have z0 : (0 : Int) ≤ (i : Int) := by omega
  have hu := und_r 14 rs (outs.drop i)
  have hN := fun h => nrm_r h rs (outs.drop i)
  have st := r_exp A (g := g) (p := p) hl hi hin (ver := outs.length) hu hN (v7 := .nm) (v12 := .i .i64 i) (K := outs.length)
   (Q := blockQ 6 (seqQ E (.region false [⟨some 107, .mv (.t 7), none, 0⟩, ⟨some 108, .mv (.t 12), none, 0⟩, ⟨some 109, .ld true 8 (.t 13), none, 0⟩, ⟨some 110, .ia 10 (.t 107) (.t 108), none, 0⟩, ⟨some 111, .fa 2 (.t 110), none, 0⟩, ⟨none, .st 8 (.t 111) (.t 109), none, 0⟩])
    (blockQ 5 (seqQ E (.region false [⟨some 75, .mv (.t 12), none, 0⟩, ⟨some 76, .bin .add (.t 75) (.k (.d (.i .i64 1))), none, 0⟩, ⟨some 12, .mv (.t 76), none, 0⟩]) (loopQ E rL4 ⟨[0, 7, 8, 12], [], [], [], [], true⟩ 5 Q)))))
   (fun tm n' e' k k1 k2 k3 k4 k5 k6 k7 k8 => ?_) r2 n2 0 (numE r1) q4 (.num _ (by omega) (by omega)) (by omega)
  ·refine lx_step ?_
   simp only [evAll, Nat.reduceBEq, ↓reduceIte, Nat.reduceEqDiff, Nat.reduceAdd, Nat.reduceLeDiff, Nat.reduceSub, Nat.reduceLT, reduceCtorEq, Int.reduceEq, Int.reduceLT, Int.reduceLE, Int.reduceNeg, loopQ, Int.reduceToNat, Nat.reduceMul, List.range'_one, rL4, c183, eq_true h0, c1, c2, c3, c3', und_r, nrm_r]
   exact st
  ·have la : i < outs.length := by omega
   have sA : ∀ hp : List (Option Obj), stA 8 4 outs.length i 2 hp (some (ecells e')) (some (.arr outs.length 10 (rRows rs (outs.drop i)))) = some (hp.set 4 (some (.arr outs.length 10 (rRows (rs ++ [⟨(outs[i]).1, (outs[i]).2, e'⟩]) (outs.drop (i + 1)))))) := fun hp => by
    have e1 : (rRows rs (outs.drop i))[i]? = some (zRow outs[i]) := by
     rw [List.getElem?_append_right (by simp; omega)]
     simp only [List.length_map, hrs, Nat.sub_self, List.getElem?_map, List.getElem?_drop, Nat.add_zero, List.getElem?_eq_getElem la, Option.map_some]
    have e2 : over (zRow outs[i]) 2 (ecells e') = some (gRow ⟨(outs[i]).1, (outs[i]).2, e'⟩) := rfl
    have e3 : (rRows rs (outs.drop i)).set i (gRow ⟨(outs[i]).1, (outs[i]).2, e'⟩) = rRows (rs ++ [⟨(outs[i]).1, (outs[i]).2, e'⟩]) (outs.drop (i + 1)) := by
     rw [List.drop_eq_getElem_cons la]
     show (rs.map gRow ++ _).set i _ = _
     rw [List.set_append_right _ _ (by simp; omega)]
     simp only [List.length_map, hrs, Nat.sub_self, List.map_cons, List.set_cons_zero, rRows, List.map_append, List.map_nil, List.append_assoc, List.cons_append, List.nil_append]
    unfold stA
    simp only [if_true, e1, e2, e3]
    rfl
   simp only [evAll, Nat.reduceBEq, ↓reduceIte, Nat.reduceEqDiff, Nat.reduceAdd, Nat.reduceLeDiff, Nat.reduceSub, Nat.reduceLT, reduceCtorEq, Int.reduceEq, Int.reduceLT, Int.reduceLE, Int.reduceNeg, loopQ, Int.reduceToNat, Nat.reduceMul, List.range'_one, k4, k5, k6, k7, k8, w, und_r, nrm_r, eq_true h0, eq_true z0, and_self, sA]
   refine ⟨_, rfl, ih (i + 1) n' (rs ++ [⟨(outs[i]).1, (outs[i]).2, e'⟩]) (by omega) (by simp; omega) k1 ?_ (fun r hr => ?_)⟩
   ·rw [List.map_append, hat, List.take_succ_eq_append_getElem la]
    rfl
   ·rcases List.mem_append.1 hr with hr | hr
    ·exact hall r hr
    ·rw [List.mem_singleton.1 hr]
     exact ⟨k, k3, k2⟩
theorem g_ofDs (rs : List GRule) : rs.map gRow = (rs.map GRule.row).map ofDs := by rw [List.map_map]; rfl
theorem refs_g (rs : List GRule) : refsRows (rs.map gRow) = [] := by rw [g_ofDs]; exact refsRows_ofDs _
theorem ren_g (f sh : Nat → Nat) (rs : List GRule) : renRows f sh (rs.map gRow) = rs.map gRow := by rw [g_ofDs]; exact renRows_ofDs ..
def RulesQ (l : List UInt8) (g : Gram) (p : GProd) (x : V × List (Option Obj)) : Prop := ∃ (n' : Nat) (rs : List GRule) (K : Nat), n' ≤ l.length ∧ rs.map GRule.at_ = wantsF g p ∧ (∀ r ∈ rs, Made1 g p r) ∧ rs.length ≤ 30 ∧ x = (.arr 1 K 0 rs.length, [pk l n', some (.arr K 10 (rs.map gRow))])
theorem rules_made (A : PE E) {g : Gram} (hg : g.Ok) {p : GProd} (hp : p.Ok) (hr : p.right.length ≤ 5) (hc4 : ∀ nt, countF g nt ≤ 4) {l : List UInt8} (hl : l.length ≤ 1000) {n : Nat} (hn : n ≤ l.length) :
  ∃ x, lcall E 183 [.ptr 0 0, g.arg, p.arg] [pk l n] = some x ∧ RulesQ l g p x := by
 refine call_qP A.e183 ?_
 simp only [evAll, Nat.reduceBEq, ↓reduceIte, Nat.reduceEqDiff, Nat.reduceAdd, Nat.reduceLeDiff, Nat.reduceSub, Nat.reduceLT, reduceCtorEq, Int.reduceEq, Int.reduceLT, Int.reduceLE, Int.reduceNeg, loopQ, Int.reduceToNat, Nat.reduceMul, List.range'_one, c183]
 refine r_out A hg hp (l := l) (n := n) hr hc4 (p.right.length + 1) 0 [] [] (by omega) (by simp) (by simp) (by simp) (fun tm ins q1 q2 q3 q4 q5 q6 => ?_)
 simp only [List.nil_append] at q4 q6 ⊢
 simp only [evAll, Nat.reduceBEq, ↓reduceIte, Nat.reduceEqDiff, Nat.reduceAdd, Nat.reduceLeDiff, Nat.reduceSub, Nat.reduceLT, reduceCtorEq, Int.reduceEq, Int.reduceLT, Int.reduceLE, Int.reduceNeg, loopQ, Int.reduceToNat, Nat.reduceMul, List.range'_one, q3, q4, q5, und_z, nrm_z]
 refine r_all A (g := g) (p := p) hl q1 q2 q6 (fun tm n' rs k1 k2 k3 k4 => ?_) (wAll g p 0 (p.right.length + 1)).length 0 n [] (by omega) rfl hn (by simp) (by simp)
 simp only [evAll, Nat.reduceBEq, ↓reduceIte, Nat.reduceEqDiff, Nat.reduceAdd, Nat.reduceLeDiff, Nat.reduceSub, Nat.reduceLT, reduceCtorEq, Int.reduceEq, Int.reduceLT, Int.reduceLE, Int.reduceNeg, loopQ, Int.reduceToNat, Nat.reduceMul, List.range'_one, k4, und_g, nrm_g, refs_g, ren_g]
 have e : rs.length = (wAll g p 0 (p.right.length + 1)).length := by rw [← k2]; simp
 exact ⟨n', rs, (wAll g p 0 (p.right.length + 1)).length, k1, k2, k3, by omega, by rw [e]⟩
def sL0 : CCode := match c168.body with
 | .seq _ (.seq _ (.seq (.seq _ (.block _ (.loop _ c))) _)) => c
 | _ => .skip
def sL1 : CCode := match c168.body with
 | .seq _ (.seq _ (.seq _ (.seq (.seq _ (.block _ (.loop _ c))) _))) => c
 | _ => .skip
def sL2 : CCode := match c168.body with
 | .seq _ (.seq _ (.seq _ (.seq _ (.seq (.seq _ (.block _ (.loop _ c))) _)))) => c
 | _ => .skip
def letter (k : Nat) : UInt8 := UInt8.ofNat (97 + k)
def gTok (k : Nat) : GTok := ⟨[116, letter k], [letter k], false⟩
def gToks (k : Nat) : List GTok := (List.range k).map gTok
theorem gToks_succ (k : Nat) : gToks (k + 1) = gToks k ++ [gTok k] := by simp [gToks, List.range_succ]
theorem gToks_len (k : Nat) : (gToks k).length = k := by simp [gToks]
abbrev z3 : Option Obj := some (.box [.nil 3, .nil 3, .nil 3])
abbrev hpS0 (l : List UInt8) (n : Nat) (ts : List GTok) : List (Option Obj) := [pk l n, z3, some (.box [.own 7 0 3 (ts.map GTok.row), .nil 3, .nil 3]), none, none, none, none, some (.tok 0 3)]
theorem s_toks {l : List UInt8} {n : Nat} {Q : Ex → St → Prop} : ∀ (m k : Nat), m + k ≤ 20 →
  (∀ tm, look tm 0 = .ptr 0 0 → look tm 2 = .ptr 1 0 → look tm 3 = .ptr 2 0 → Q (.exit 0) ⟨tm, hpS0 l n (gToks (k + m))⟩) →
  LX E sL0 ⟨[0, 2, 3, 4], [], [(3, 0)], [], [], true⟩ 8 ⟨[(0, .ptr 0 0), (2, .ptr 1 0), (3, .ptr 2 0), (4, .d (.i .i64 m))], hpS0 l n (gToks k)⟩ Q := by
 intro m
 induction m with
 | zero =>
  intro k hk hQ
  have h0 : ¬ (((0 : Nat) : Int) > 0) := by omega
  refine lx_step ?_
  simp only [evAll, Nat.reduceBEq, ↓reduceIte, Nat.reduceEqDiff, Nat.reduceAdd, Nat.reduceLeDiff, Nat.reduceSub, Nat.reduceLT, reduceCtorEq, Int.reduceEq, Int.reduceLT, Int.reduceLE, Int.reduceNeg, loopQ, Int.reduceToNat, Nat.reduceMul, List.range'_one, sL0, c168, h0]
  exact hQ _ rfl rfl rfl
 | succ m ih =>
  intro k hk hQ
  have h0 : (((m + 1 : Nat) : Int) > 0) := by omega
  have w : IntKind.i64.wrap (((m + 1 : Nat) : Int) - 1) = (m : Int) := by rw [i64w (by omega) (by omega)]; omega
  have w1 : IntKind.i64.wrap (97 + (k : Int)) = ((97 + k : Nat) : Int) := by rw [i64w (by omega) (by omega)]; omega
  have w2 : IntKind.u8.wrap ((97 + k : Nat) : Int) = ((97 + k : Nat) : Int) := by
   show ((97 + k : Nat) : Int) % 256 = _
   omega
  have hl := gToks_len k
  have r1 : roomy (k + 1) 40 = true := by unfold roomy; exact decide_eq_true (by omega)
  refine lx_step ?_
  simp only [evAll, Nat.reduceBEq, ↓reduceIte, Nat.reduceEqDiff, Nat.reduceAdd, Nat.reduceLeDiff, Nat.reduceSub, Nat.reduceLT, reduceCtorEq, Int.reduceEq, Int.reduceLT, Int.reduceLE, Int.reduceNeg, loopQ, Int.reduceToNat, Nat.reduceMul, List.range'_one, sL0, c168, eq_true h0, w, w1, w2, hl, r1, List.length_map]
  have e1 : (gToks k).map GTok.row ++ [[D.s [116, UInt8.ofNat (97 + k)], .s [UInt8.ofNat (97 + k)], .b false]] = (gToks (k + 1)).map GTok.row := by rw [gToks_succ, List.map_append]; rfl
  rw [e1]
  refine ⟨_, rfl, ih (k + 1) (by omega) (fun tm k0 k2 k3 => ?_)⟩
  have e2 : k + 1 + m = k + (m + 1) := by omega
  rw [e2]
  exact hQ tm k0 k2 k3
def ij : List (List UInt8) := [[105], [106]]
def su : List (List UInt8) := [[115], [117]]
structure NtOk (k : Nat) (x : GNt) : Prop where
 name : x.name = [110, letter k]
 inh : ∃ a, a ≤ 2 ∧ x.inh = ij.take a
 first : k = 0 → x.inh = []
 syn : ∃ b, b ≤ 2 ∧ x.syn = su.take b
def NtsOk (ns : List GNt) : Prop := ∀ k (h : k < ns.length), NtOk k ns[k]
theorem NtsOk.snoc {ns : List GNt} (h : NtsOk ns) {x : GNt} (hx : NtOk ns.length x) : NtsOk (ns ++ [x]) := fun k hk => by
 by_cases e : k < ns.length
 ·rw [List.getElem_append_left e]; exact h k e
 ·have : k = ns.length := by simp at hk; omega
  subst this
  rw [List.getElem_append_right (Nat.le_refl _)]
  simpa using hx
abbrev hpS1 (l : List UInt8) (n : Nat) (ts : List GTok) (ns : List GNt) : List (Option Obj) := [pk l n, z3, some (.box [.own 7 0 3 (ts.map GTok.row), .own 12 0 3 (ns.map GNt.row), .nil 3]), none, none, none, none, some (.tok 0 3), none, none, none, none, some (.tok 0 3)]
theorem bnd2 {r : Nat} (h : r ≤ 2) : bounds none (some (.d (.i .i64 (r : Int)))) 2 = some (0, r) := by
 unfold bounds
 simp only
 rw [if_pos ⟨by omega, by omega, by omega⟩]; rfl
theorem takeIJ (r : Nat) : ([[D.s [105]], [D.s [106]]] : List (List D)).take r = (ij.take r).map strRow := by rw [List.map_take]; rfl
theorem takeSU (r : Nat) : ([[D.s [115]], [D.s [117]]] : List (List D)).take r = (su.take r).map strRow := by rw [List.map_take]; rfl
theorem s_nts (A : PE E) {l : List UInt8} (hl : l.length ≤ 1000) {ts : List GTok} {Q : Ex → St → Prop} : ∀ (m n : Nat) (ns : List GNt), ns.length + m ≤ 4 → n ≤ l.length → NtsOk ns →
  (∀ tm n' (ns' : List GNt), n' ≤ l.length → NtsOk ns' → ns'.length = ns.length + m → look tm 0 = .ptr 0 0 → look tm 2 = .ptr 1 0 → look tm 3 = .ptr 2 0 → Q (.exit 2) ⟨tm, hpS1 l n' ts ns'⟩) →
  LX E sL1 ⟨[0, 2, 3, 6], [], [(3, 1)], [], [], true⟩ 13 ⟨[(0, .ptr 0 0), (2, .ptr 1 0), (3, .ptr 2 0), (6, .d (.i .i64 m))], hpS1 l n ts ns⟩ Q := by
 intro m
 induction m with
 | zero =>
  intro n ns hk hn hns hQ
  have h0 : ¬ (((0 : Nat) : Int) > 0) := by omega
  refine lx_step ?_
  simp only [evAll, Nat.reduceBEq, ↓reduceIte, Nat.reduceEqDiff, Nat.reduceAdd, Nat.reduceLeDiff, Nat.reduceSub, Nat.reduceLT, reduceCtorEq, Int.reduceEq, Int.reduceLT, Int.reduceLE, Int.reduceNeg, loopQ, Int.reduceToNat, Nat.reduceMul, List.range'_one, sL1, c168, h0]
  exact hQ _ n ns hn hns rfl rfl rfl rfl
 | succ m ih =>
  intro n ns hk hn hns hQ
  have h0 : (((m + 1 : Nat) : Int) > 0) := by omega
  have w : IntKind.i64.wrap (((m + 1 : Nat) : Int) - 1) = (m : Int) := by rw [i64w (by omega) (by omega)]; omega
  have w1 : IntKind.i64.wrap (97 + (ns.length : Int)) = ((97 + ns.length : Nat) : Int) := by rw [i64w (by omega) (by omega)]; omega
  have w2 : IntKind.u8.wrap ((97 + ns.length : Nat) : Int) = ((97 + ns.length : Nat) : Int) := by
   show ((97 + ns.length : Nat) : Int) % 256 = _
   omega
  have r1 : roomy (ns.length + 1) 64 = true := by unfold roomy; exact decide_eq_true (by omega)
  refine lx_step ?_
  by_cases hz : (ns.length : Int) > 0
  ·obtain ⟨a, n1, q1, q2, c1⟩ := num_ok A hl hn (m := 3) (by omega) (by omega)
   obtain ⟨b, n2, q3, q4, c2⟩ := num_ok A hl q2 (m := 3) (by omega) (by omega)
   have b1 := bnd2 (r := a) (by omega)
   have b2 := bnd2 (r := b) (by omega)
   have hx : NtOk ns.length ⟨[110, letter ns.length], ij.take a, su.take b⟩ := ⟨rfl, ⟨a, by omega, rfl⟩, fun h => by omega, ⟨b, by omega, rfl⟩⟩
   have ih' := ih n2 (ns ++ [⟨[110, letter ns.length], ij.take a, su.take b⟩]) (by simp; omega) q4 (hns.snoc hx) (fun tm n' ns' k1 k2 k3 k4 k5 k6 => hQ tm n' ns' k1 k2 (by simp at k3; omega) k4 k5 k6)
   simp only [hpS1, List.map_append, List.map_cons, List.map_nil] at ih'
   by_cases ha : a = 2 <;> by_cases hb : b = 2
   ·subst ha; subst hb
    simp only [evAll, Nat.reduceBEq, ↓reduceIte, Nat.reduceEqDiff, Nat.reduceAdd, Nat.reduceLeDiff, Nat.reduceSub, Nat.reduceLT, reduceCtorEq, Int.reduceEq, Int.reduceLT, Int.reduceLE, Int.reduceNeg, loopQ, Int.reduceToNat, Nat.reduceMul, List.range'_one, sL1, c168, eq_true h0, w, w1, w2, r1, List.length_map, eq_true hz, c1, c2, b1, b2, List.length_cons, List.length_nil, takeIJ, takeSU, List.drop_zero, Nat.sub_zero]
    exact ⟨_, rfl, ih'⟩
   ·subst ha
    simp only [evAll, Nat.reduceBEq, ↓reduceIte, Nat.reduceEqDiff, Nat.reduceAdd, Nat.reduceLeDiff, Nat.reduceSub, Nat.reduceLT, reduceCtorEq, Int.reduceEq, Int.reduceLT, Int.reduceLE, Int.reduceNeg, loopQ, Int.reduceToNat, Nat.reduceMul, List.range'_one, sL1, c168, eq_true h0, w, w1, w2, r1, List.length_map, eq_true hz, c1, c2, b1, b2, hb, List.length_cons, List.length_nil, takeIJ, takeSU, List.drop_zero, Nat.sub_zero]
    exact ⟨_, rfl, ih'⟩
   ·subst hb
    simp only [evAll, Nat.reduceBEq, ↓reduceIte, Nat.reduceEqDiff, Nat.reduceAdd, Nat.reduceLeDiff, Nat.reduceSub, Nat.reduceLT, reduceCtorEq, Int.reduceEq, Int.reduceLT, Int.reduceLE, Int.reduceNeg, loopQ, Int.reduceToNat, Nat.reduceMul, List.range'_one, sL1, c168, eq_true h0, w, w1, w2, r1, List.length_map, eq_true hz, c1, c2, b1, b2, ha, List.length_cons, List.length_nil, takeIJ, takeSU, List.drop_zero, Nat.sub_zero]
    exact ⟨_, rfl, ih'⟩
   ·simp only [evAll, Nat.reduceBEq, ↓reduceIte, Nat.reduceEqDiff, Nat.reduceAdd, Nat.reduceLeDiff, Nat.reduceSub, Nat.reduceLT, reduceCtorEq, Int.reduceEq, Int.reduceLT, Int.reduceLE, Int.reduceNeg, loopQ, Int.reduceToNat, Nat.reduceMul, List.range'_one, sL1, c168, eq_true h0, w, w1, w2, r1, List.length_map, eq_true hz, c1, c2, b1, b2, ha, hb, List.length_cons, List.length_nil, takeIJ, takeSU, List.drop_zero, Nat.sub_zero]
    exact ⟨_, rfl, ih'⟩
  ·obtain ⟨b, n2, q3, q4, c2⟩ := num_ok A hl hn (m := 3) (by omega) (by omega)
   have b2 := bnd2 (r := b) (by omega)
   have hx : NtOk ns.length ⟨[110, letter ns.length], ij.take 0, su.take b⟩ := ⟨rfl, ⟨0, by omega, rfl⟩, fun h => rfl, ⟨b, by omega, rfl⟩⟩
   have ih' := ih n2 (ns ++ [⟨[110, letter ns.length], ij.take 0, su.take b⟩]) (by simp; omega) q4 (hns.snoc hx) (fun tm n' ns' k1 k2 k3 k4 k5 k6 => hQ tm n' ns' k1 k2 (by simp at k3; omega) k4 k5 k6)
   simp only [hpS1, List.map_append, List.map_cons, List.map_nil] at ih'
   by_cases hb : b = 2
   ·subst hb
    simp only [evAll, Nat.reduceBEq, ↓reduceIte, Nat.reduceEqDiff, Nat.reduceAdd, Nat.reduceLeDiff, Nat.reduceSub, Nat.reduceLT, reduceCtorEq, Int.reduceEq, Int.reduceLT, Int.reduceLE, Int.reduceNeg, loopQ, Int.reduceToNat, Nat.reduceMul, List.range'_one, sL1, c168, eq_true h0, w, w1, w2, r1, List.length_map, hz, c2, b2, List.length_cons, List.length_nil, takeIJ, takeSU, List.drop_zero, Nat.sub_zero]
    exact ⟨_, rfl, ih'⟩
   ·simp only [evAll, Nat.reduceBEq, ↓reduceIte, Nat.reduceEqDiff, Nat.reduceAdd, Nat.reduceLeDiff, Nat.reduceSub, Nat.reduceLT, reduceCtorEq, Int.reduceEq, Int.reduceLT, Int.reduceLE, Int.reduceNeg, loopQ, Int.reduceToNat, Nat.reduceMul, List.range'_one, sL1, c168, eq_true h0, w, w1, w2, r1, List.length_map, hz, c2, b2, hb, List.length_cons, List.length_nil, takeIJ, takeSU, List.drop_zero, Nat.sub_zero]
    exact ⟨_, rfl, ih'⟩
theorem settle_arr1 {l : List UInt8} {m v sz n : Nat} {rows : List (List D)} (hn : n = rows.length) (hr : ∀ r ∈ rows, r.length ≤ 20) (hl : rows.length < 3000) : settle 1 (.arr 1 v 0 n) [pk l m, some (.arr v sz (rows.map ofDs))] = some (.d (.l sz rows), [pk l m]) := by
 have h0 : ansIds 1 (.arr 1 v 0 n) = [1] := rfl
 have h1 : V.lend (fun i => (([pk l m, some (.arr v sz (rows.map ofDs))] : List (Option Obj))[i]?).join) far (.arr 1 v 0 n) = some (.l sz rows) := by
  rw [lend_arr (n := 20) rfl hr (by omega) (by omega)]
  subst hn
  simp
 have h2 : frzA 1 (fun i => (([pk l m, some (.arr v sz (rows.map ofDs))] : List (Option Obj))[i]?).join) (.arr 1 v 0 n) = some (.d (.l sz rows)) := by
  show (if 1 ≤ 1 then (match V.lend (fun i => (([pk l m, some (.arr v sz (rows.map ofDs))] : List (Option Obj))[i]?).join) far (.arr 1 v 0 n) with | some d => some (V.d d) | none => none) else some (.arr 1 v 0 n)) = _
  rw [h1]; rfl
 have h3 : reach (fun i => (([pk l m, some (.arr v sz (rows.map ofDs))] : List (Option Obj))[i]?).join) far [1] [] = some [1] := by
  show reach _ 4095 ([] ++ refsRows (rows.map ofDs)) ([] ++ [1]) = _
  rw [refsRows_ofDs]; rfl
 have h4 : reach (fun i => (([pk l m, some (.arr v sz (rows.map ofDs))] : List (Option Obj))[i]?).join) far (List.range 1 ++ V.refs (.d (.l sz rows))) [] = some [0] := rfl
 unfold settle
 simp only [h0, h2, h3, h4]
 rfl
def sL3 : CCode := match sL2 with
 | .seq _ (.seq (.block _ (.seq _ (.seq (.seq _ (.block _ (.loop _ c))) _))) _) => c
 | _ => .skip
abbrev hpS3 (l : List UInt8) (n : Nat) (g : Gram) (left : Int) (ss : List GSym) : List (Option Obj) := [pk l n, z3, some (.box [.own 7 0 3 (g.toks.map GTok.row), .own 12 0 3 (g.nts.map GNt.row), .own 17 0 3 (g.prods.map GProd.row)]), none, none, none, none, some (.tok 0 3), none, none, none, none, some (.tok 0 3), none, none, none, none, some (.tok 0 3), none, none, none, none,
 some (.box [.d (.i .i64 left), .own 27 0 2 (ss.map GSym.row), .nil 10]), none, none, none, none, some (.tok 0 2)]
theorem s_right (A : PE E) {l : List UInt8} (hl : l.length ≤ 1000) {g : Gram} (ht : 0 < g.toks.length) (ht2 : g.toks.length ≤ 100) (hn0 : 0 < g.nts.length) (hn2 : g.nts.length ≤ 100) (hsk : ∀ t ∈ g.toks, t.skip = false) {left : Int} {v8 : D} {Q : Ex → St → Prop} : ∀ (m n : Nat) (ss : List GSym), ss.length + m ≤ 5 → n ≤ l.length → (∀ s ∈ ss, symF g s = true) →
  (∀ tm n' (ss' : List GSym), n' ≤ l.length → (∀ s ∈ ss', symF g s = true) → ss'.length ≤ 5 → look tm 0 = .ptr 0 0 → look tm 2 = .ptr 1 0 → look tm 3 = .ptr 2 0 → look tm 8 = .d v8 → look tm 9 = .ptr 22 0 → Q (.exit 6) ⟨tm, hpS3 l n' g left ss'⟩) →
  LX E sL3 ⟨[0, 2, 3, 8, 9, 10], [], [(9, 1)], [], [], true⟩ 28 ⟨[(0, .ptr 0 0), (2, .ptr 1 0), (3, .ptr 2 0), (8, .d v8), (9, .ptr 22 0), (10, .d (.i .i64 m))], hpS3 l n g left ss⟩ Q := by
 intro m
 induction m with
 | zero =>
  intro n ss hk hn hss hQ
  have h0 : ¬ (((0 : Nat) : Int) > 0) := by omega
  refine lx_step ?_
  simp only [evAll, Nat.reduceBEq, ↓reduceIte, Nat.reduceEqDiff, Nat.reduceAdd, Nat.reduceLeDiff, Nat.reduceSub, Nat.reduceLT, reduceCtorEq, Int.reduceEq, Int.reduceLT, Int.reduceLE, Int.reduceNeg, loopQ, Int.reduceToNat, Nat.reduceMul, List.range'_one, sL3, sL2, c168, h0]
  exact hQ _ n ss hn hss (by omega) rfl rfl rfl rfl rfl
 | succ m ih =>
  intro n ss hk hn hss hQ
  have h0 : (((m + 1 : Nat) : Int) > 0) := by omega
  have w : IntKind.i64.wrap (((m + 1 : Nat) : Int) - 1) = (m : Int) := by rw [i64w (by omega) (by omega)]; omega
  have r1 : roomy (ss.length + 1) 16 = true := by unfold roomy; exact decide_eq_true (by omega)
  obtain ⟨a, n1, q1, q2, c1⟩ := num_ok A hl hn (m := 5) (by omega) (by omega)
  obtain ⟨b, n2, q3, q4, c2⟩ := num_ok A hl q2 (m := (g.nts.length : Int)) (by omega) (by omega)
  obtain ⟨c, n3, q5, q6, c3⟩ := num_ok A hl q4 (m := (g.toks.length : Int)) (by omega) (by omega)
  refine lx_step ?_
  by_cases ha : (a : Int) < 3
  ·have hx : symF g ⟨true, c⟩ = true := by
    have e1 : (c : Int).toNat = c := by omega
    have lc : c < g.toks.length := by omega
    have e2 : (0 : Int) ≤ (c : Int) := by omega
    simp only [symF, if_true, e1, List.getElem?_eq_getElem lc, hsk _ (List.getElem_mem lc), decide_eq_true q5, decide_eq_true e2]
    rfl
   have ih' := ih n3 (ss ++ [⟨true, c⟩]) (by simp; omega) q6 (fun s hs => by
    rcases List.mem_append.1 hs with hs | hs
    ·exact hss s hs
    ·rw [List.mem_singleton.1 hs]; exact hx) hQ
   simp only [hpS3, List.map_append, List.map_cons, List.map_nil] at ih'
   simp only [evAll, Nat.reduceBEq, ↓reduceIte, Nat.reduceEqDiff, Nat.reduceAdd, Nat.reduceLeDiff, Nat.reduceSub, Nat.reduceLT, reduceCtorEq, Int.reduceEq, Int.reduceLT, Int.reduceLE, Int.reduceNeg, loopQ, Int.reduceToNat, Nat.reduceMul, List.range'_one, sL3, sL2, c168, eq_true h0, w, r1, List.length_map, c1, c2, c3, eq_true ha]
   exact ⟨_, rfl, ih'⟩
  ·have hx : symF g ⟨false, b⟩ = true := by
    have e2 : (0 : Int) ≤ (b : Int) := by omega
    simp only [symF, Bool.false_eq_true, if_false, decide_eq_true q3, decide_eq_true e2]
    rfl
   have ih' := ih n2 (ss ++ [⟨false, b⟩]) (by simp; omega) q4 (fun s hs => by
    rcases List.mem_append.1 hs with hs | hs
    ·exact hss s hs
    ·rw [List.mem_singleton.1 hs]; exact hx) hQ
   simp only [hpS3, List.map_append, List.map_cons, List.map_nil] at ih'
   simp only [evAll, Nat.reduceBEq, ↓reduceIte, Nat.reduceEqDiff, Nat.reduceAdd, Nat.reduceLeDiff, Nat.reduceSub, Nat.reduceLT, reduceCtorEq, Int.reduceEq, Int.reduceLT, Int.reduceLE, Int.reduceNeg, loopQ, Int.reduceToNat, Nat.reduceMul, List.range'_one, sL3, sL2, c168, eq_true h0, w, r1, List.length_map, c1, c2, ha]
   exact ⟨_, rfl, ih'⟩
theorem inF_same (ts : List GTok) (ns : List GNt) (ps ps' : List GProd) (left : Int) (ss : List GSym) (rs rs' : List GRule) (x : Int × Int) : inF ⟨ts, ns, ps⟩ ⟨left, ss, rs⟩ x = inF ⟨ts, ns, ps'⟩ ⟨left, ss, rs'⟩ x := rfl
theorem wRow_same (ts : List GTok) (ns : List GNt) (ps ps' : List GProd) (left : Int) (ss : List GSym) (rs rs' : List GRule) (i : Int) : ∀ (n a : Nat), wRow ⟨ts, ns, ps⟩ ⟨left, ss, rs⟩ i a n = wRow ⟨ts, ns, ps'⟩ ⟨left, ss, rs'⟩ i a n
 | 0, a => rfl
 | n + 1, a => by
  simp only [wRow, wRow_same ts ns ps ps' left ss rs rs' i n (a + 1)]
  rfl
theorem wAll_same (ts : List GTok) (ns : List GNt) (ps ps' : List GProd) (left : Int) (ss : List GSym) (rs rs' : List GRule) : ∀ (n a : Nat), wAll ⟨ts, ns, ps⟩ ⟨left, ss, rs⟩ a n = wAll ⟨ts, ns, ps'⟩ ⟨left, ss, rs'⟩ a n
 | 0, a => rfl
 | n + 1, a => by
  simp only [wAll, wAll_same ts ns ps ps' left ss rs rs' n (a + 1), wRow_same ts ns ps ps' left ss rs rs']
  rfl
theorem wants_same (ts : List GTok) (ns : List GNt) (ps ps' : List GProd) (left : Int) (ss : List GSym) (rs rs' : List GRule) : wantsF ⟨ts, ns, ps⟩ ⟨left, ss, rs⟩ = wantsF ⟨ts, ns, ps'⟩ ⟨left, ss, rs'⟩ := wAll_same ..
theorem InOk.same {ts : List GTok} {ns : List GNt} {ps : List GProd} (ps' : List GProd) {left : Int} {ss : List GSym} {rs : List GRule} (rs' : List GRule) {e : Exp} (h : InOk ⟨ts, ns, ps⟩ ⟨left, ss, rs⟩ e) : InOk ⟨ts, ns, ps'⟩ ⟨left, ss, rs'⟩ e := by
 cases h with
 | ref o a h => exact .ref o a h
 | text o h => exact .text o h
theorem Built.same {ts : List GTok} {ns : List GNt} {ps : List GProd} (ps' : List GProd) {left : Int} {ss : List GSym} {rs : List GRule} (rs' : List GRule) {k : Nat} {e : Exp} (h : Built ⟨ts, ns, ps⟩ ⟨left, ss, rs⟩ k e) : Built ⟨ts, ns, ps'⟩ ⟨left, ss, rs'⟩ k e := by
 induction h with
 | num x h0 h1 => exact .num x h0 h1
 | op ho _ hi ih => exact .op ho ih (hi.same ps' rs')
structure MadeP (ts : List GTok) (ns : List GNt) (p : GProd) : Prop where
 l0 : 0 ≤ p.left
 l1 : p.left < ns.length
 right : p.right.length ≤ 5
 syms : ∀ s ∈ p.right, symF ⟨ts, ns, []⟩ s = true
 rules : p.rules.map GRule.at_ = wantsF ⟨ts, ns, []⟩ p
 made : ∀ r ∈ p.rules, ∃ k, k ≤ 2 ∧ Built ⟨ts, ns, []⟩ p k r.e
 few : p.rules.length ≤ 30
theorem nts_count {ns : List GNt} (h : NtsOk ns) (ts : List GTok) (ps : List GProd) (i : Int) : countF ⟨ts, ns, ps⟩ i ≤ 4 := by
 unfold countF ntA
 split
 ·cases hx : ns[i.toNat]? with
  | none => simp [noNt]
  | some x =>
   obtain ⟨hlt, rfl⟩ := List.getElem?_eq_some_iff.1 hx
   obtain ⟨_, ⟨a, ha, e1⟩, _, ⟨b, hb, e2⟩⟩ := h _ hlt
   simp only [Option.getD_some, e1, e2, List.length_take]
   have : ij.length = 2 := rfl
   have : su.length = 2 := rfl
   omega
 ·simp [noNt]
theorem nts_len {ns : List GNt} (h : NtsOk ns) : ∀ n ∈ ns, n.inh.length ≤ 1000 ∧ n.syn.length ≤ 1000 := fun n hn => by
 obtain ⟨k, hk, rfl⟩ := List.getElem_of_mem hn
 obtain ⟨_, ⟨a, ha, e1⟩, _, ⟨b, hb, e2⟩⟩ := h k hk
 rw [e1, e2]
 simp only [List.length_take]
 omega
theorem MadeP.ok {ts : List GTok} {ns : List GNt} {p : GProd} (h : MadeP ts ns p) : p.Ok := ⟨by have := h.right; omega, by have := h.few; omega⟩
abbrev hpS2 (l : List UInt8) (n : Nat) (g : Gram) : List (Option Obj) := [pk l n, z3, some (.box [.own 7 0 3 (g.toks.map GTok.row), .own 12 0 3 (g.nts.map GNt.row), .own 17 0 3 (g.prods.map GProd.row)]), none, none, none, none, some (.tok 0 3), none, none, none, none, some (.tok 0 3), none, none, none, none, some (.tok 0 3)]
theorem s_prods (A : PE E) {l : List UInt8} (hl : l.length ≤ 1000) {ts : List GTok} (ht : 0 < ts.length) (ht2 : ts.length ≤ 100) (hsk : ∀ t ∈ ts, t.skip = false) {ns : List GNt} (hns : NtsOk ns) (hn0 : 0 < ns.length) (hn2 : ns.length ≤ 100) {Q : Ex → St → Prop} : ∀ (m n : Nat) (ps : List GProd), ps.length + m ≤ 10 → n ≤ l.length → (∀ p ∈ ps, MadeP ts ns p) →
  (∀ tm n' (ps' : List GProd), n' ≤ l.length → (∀ p ∈ ps', MadeP ts ns p) → ps'.length = ps.length + m → look tm 2 = .ptr 1 0 → look tm 3 = .ptr 2 0 → Q (.exit 4) ⟨tm, hpS2 l n' ⟨ts, ns, ps'⟩⟩) →
  LX E sL2 ⟨[0, 2, 3, 8], [], [(3, 2)], [], [], true⟩ 18 ⟨[(0, .ptr 0 0), (2, .ptr 1 0), (3, .ptr 2 0), (8, .d (.i .i64 m))], hpS2 l n ⟨ts, ns, ps⟩⟩ Q := by
 intro m
 induction m with
 | zero =>
  intro n ps hk hn hps hQ
  have h0 : ¬ (((0 : Nat) : Int) > 0) := by omega
  refine lx_step ?_
  simp only [evAll, Nat.reduceBEq, ↓reduceIte, Nat.reduceEqDiff, Nat.reduceAdd, Nat.reduceLeDiff, Nat.reduceSub, Nat.reduceLT, reduceCtorEq, Int.reduceEq, Int.reduceLT, Int.reduceLE, Int.reduceNeg, loopQ, Int.reduceToNat, Nat.reduceMul, List.range'_one, sL2, c168, h0]
  exact hQ _ n ps hn hps rfl rfl rfl
 | succ m ih =>
  intro n ps hk hn hps hQ
  have h0 : (((m + 1 : Nat) : Int) > 0) := by omega
  have w : IntKind.i64.wrap (((m + 1 : Nat) : Int) - 1) = (m : Int) := by rw [i64w (by omega) (by omega)]; omega
  have r1 : roomy (ps.length + 1) 56 = true := by unfold roomy; exact decide_eq_true (by omega)
  obtain ⟨a, n1, q1, q2, c1⟩ := num_ok A hl hn (m := (ns.length : Int)) (by omega) (by omega)
  obtain ⟨b, n2, q3, q4, c2⟩ := num_ok A hl q2 (m := 4) (by omega) (by omega)
  have st := s_right A hl (g := ⟨ts, ns, ps⟩) ht ht2 hn0 hn2 hsk (left := (a : Int)) (v8 := .i .i64 ((m + 1 : Nat) : Int))
   (Q := blockQ 6 (seqQ E (.seq (.region false [⟨some 115, .mv (.t 0), none, 0⟩, ⟨some 116, .ld true 3 (.t 3), none, 0⟩, ⟨some 117, .ld true 3 (.t 9), none, 0⟩, ⟨some 118, .call 183 [.t 115, .t 116, .t 117] 4 true, none, 0⟩, ⟨some 119, .fa 2 (.t 9), none, 0⟩, ⟨none, .st 1 (.t 119) (.t 118), none, 0⟩])
    (.region false [⟨some 120, .fa 2 (.t 3), none, 0⟩, ⟨some 121, .ld false 1 (.t 120), none, 0⟩, ⟨some 122, .ld true 3 (.t 9), none, 0⟩, ⟨some 123, .bsl 3 1 [.i .i64 0, .l 2 [], .l 10 []] [(0, .t 122)], none, 0⟩, ⟨some 124, .app 3 56 (.t 121) (.t 123), none, 0⟩, ⟨some 125, .fa 2 (.t 3), none, 0⟩, ⟨none, .st 1 (.t 125) (.t 124), none, 0⟩]))
     (blockQ 5 (seqQ E (.region false [⟨some 77, .mv (.t 8), none, 0⟩, ⟨some 78, .bin .sub (.t 77) (.k (.d (.i .i64 1))), none, 0⟩, ⟨some 8, .mv (.t 78), none, 0⟩]) (loopQ E sL2 ⟨[0, 2, 3, 8], [], [(3, 2)], [], [], true⟩ 18 Q)))))
   b n2 [] (by simp; omega) q4 (by simp) (fun tm n3 ss q5 hss h5 k0 k2 k3 k8 k9 => ?_)
  ·refine lx_step ?_
   simp only [evAll, Nat.reduceBEq, ↓reduceIte, Nat.reduceEqDiff, Nat.reduceAdd, Nat.reduceLeDiff, Nat.reduceSub, Nat.reduceLT, reduceCtorEq, Int.reduceEq, Int.reduceLT, Int.reduceLE, Int.reduceNeg, loopQ, Int.reduceToNat, Nat.reduceMul, List.range'_one, sL2, c168, eq_true h0, c1, c2, List.length_map]
   exact st
  ·have hg : Gram.Ok ⟨ts, ns, ps⟩ := ⟨by simp only; omega, by simp only; omega, by simp only; omega, nts_len hns, fun p hp => (hps p hp).ok⟩
   have hpk : GProd.Ok ⟨(a : Int), ss, []⟩ := ⟨by simp only; omega, by simp⟩
   obtain ⟨x, cR, n4, rs, K, g1, g2, g3, g4, rfl⟩ := rules_made A hg hpk (by simp only; omega) (nts_count hns ts ps) hl q5
   have cS : setl1 1 (.arr 1 K 0 rs.length) [pk l n4, some (.arr K 10 (rs.map gRow))] [1] = some (.d (.l 10 (rs.map GRule.row)), [pk l n4]) := by
    rw [g_ofDs]
    exact settle_arr1 (by simp) (fun r hr => by obtain ⟨s, _, rfl⟩ := List.mem_map.1 hr; simp [GRule.row]) (by simp; omega)
   have hP : MadeP ts ns ⟨(a : Int), ss, rs⟩ := ⟨by simp only; omega, q1, by simp only; omega, hss, by rw [g2]; exact wants_same .., fun r hr => by obtain ⟨k, hk, hb⟩ := (g3 r hr).e; exact ⟨k, hk, hb.same [] rs⟩, g4⟩
   have ih' := ih n4 (ps ++ [⟨(a : Int), ss, rs⟩]) (by simp; omega) g1 (fun p hp => by
    rcases List.mem_append.1 hp with hp | hp
    ·exact hps p hp
    ·rw [List.mem_singleton.1 hp]; exact hP) (fun tm n' ps' e1 e2 e3 e4 e5 => hQ tm n' ps' e1 e2 (by simp at e3; omega) e4 e5)
   simp only [hpS2, List.map_append, List.map_cons, List.map_nil] at ih'
   have cR' : lcall E 183 [.ptr 0 0, .agg [.d (.l 3 (ts.map GTok.row)), .d (.l 3 (ns.map GNt.row)), .d (.l 3 (ps.map GProd.row))], .agg [.d (.i .i64 a), .d (.l 2 (ss.map GSym.row)), .d (.l 10 [])]] [pk l n3] = some (.arr 1 K 0 rs.length, [pk l n4, some (.arr K 10 (rs.map gRow))]) := cR
   simp only [evAll, Nat.reduceBEq, ↓reduceIte, Nat.reduceEqDiff, Nat.reduceAdd, Nat.reduceLeDiff, Nat.reduceSub, Nat.reduceLT, reduceCtorEq, Int.reduceEq, Int.reduceLT, Int.reduceLE, Int.reduceNeg, loopQ, Int.reduceToNat, Nat.reduceMul, List.range'_one, k0, k2, k3, k8, k9, cR', cS, w, r1, List.length_map, refs_g, ren_g]
   exact ⟨_, rfl, ih'⟩
structure MadeG (g : Gram) : Prop where
 toks : ∃ t, 1 ≤ t ∧ t ≤ 3 ∧ g.toks = gToks t
 nts : NtsOk g.nts
 n0 : 1 ≤ g.nts.length
 n1 : g.nts.length ≤ 4
 p0 : 1 ≤ g.prods.length
 p1 : g.prods.length ≤ 7
 prods : ∀ p ∈ g.prods, MadeP g.toks g.nts p
def GramQ (l : List UInt8) (x : V × List (Option Obj)) : Prop := ∃ (n' : Nat) (g : Gram), n' ≤ l.length ∧ MadeG g ∧ x = (g.arg, [pk l n'])
theorem gram_made (A : PE E) {l : List UInt8} (hl : l.length ≤ 1000) {n : Nat} (hn : n ≤ l.length) : ∃ x, lcall E 168 [.ptr 0 0] [pk l n] = some x ∧ GramQ l x := by
 obtain ⟨a, n1, q1, q2, c1⟩ := num_ok A hl hn (m := 3) (by omega) (by omega)
 obtain ⟨b, n2, q3, q4, c2⟩ := num_ok A hl q2 (m := 4) (by omega) (by omega)
 have w1 : IntKind.i64.wrap ((a : Int) + 1) = ((a + 1 : Nat) : Int) := by rw [i64w (by omega) (by omega)]; omega
 have w2 : IntKind.i64.wrap ((b : Int) + 1) = ((b + 1 : Nat) : Int) := by rw [i64w (by omega) (by omega)]; omega
 refine call_qP A.e168 ?_
 simp only [evAll, Nat.reduceBEq, ↓reduceIte, Nat.reduceEqDiff, Nat.reduceAdd, Nat.reduceLeDiff, Nat.reduceSub, Nat.reduceLT, reduceCtorEq, Int.reduceEq, Int.reduceLT, Int.reduceLE, Int.reduceNeg, loopQ, Int.reduceToNat, Nat.reduceMul, List.range'_one, c168, c1, w1]
 refine s_toks (l := l) (n := n1) (a + 1) 0 (by omega) (fun tm k0 k2 k3 => ?_)
 rw [Nat.zero_add]
 simp only [evAll, Nat.reduceBEq, ↓reduceIte, Nat.reduceEqDiff, Nat.reduceAdd, Nat.reduceLeDiff, Nat.reduceSub, Nat.reduceLT, reduceCtorEq, Int.reduceEq, Int.reduceLT, Int.reduceLE, Int.reduceNeg, loopQ, Int.reduceToNat, Nat.reduceMul, List.range'_one, k0, k2, k3, c2, w2]
 refine s_nts A hl (ts := gToks (a + 1)) (b + 1) n2 [] (by simp; omega) q4 (fun k hk => absurd hk (Nat.not_lt_zero _)) (fun tm n3 ns q5 hns hnl k0 k2 k3 => ?_)
 obtain ⟨c, n4, q6, q7, c3⟩ := num_ok A hl q5 (m := 7) (by omega) (by omega)
 have w3 : IntKind.i64.wrap ((c : Int) + 1) = ((c + 1 : Nat) : Int) := by rw [i64w (by omega) (by omega)]; omega
 simp only [evAll, Nat.reduceBEq, ↓reduceIte, Nat.reduceEqDiff, Nat.reduceAdd, Nat.reduceLeDiff, Nat.reduceSub, Nat.reduceLT, reduceCtorEq, Int.reduceEq, Int.reduceLT, Int.reduceLE, Int.reduceNeg, loopQ, Int.reduceToNat, Nat.reduceMul, List.range'_one, k0, k2, k3, c3, w3]
 have hnl' : ns.length = b + 1 := by simpa using hnl
 refine s_prods A hl (ts := gToks (a + 1)) (by rw [gToks_len]; omega) (by rw [gToks_len]; omega) (fun t ht => by obtain ⟨k, _, rfl⟩ := List.mem_map.1 ht; rfl) hns (by omega) (by omega) (c + 1) n4 [] (by simp; omega) q7 (by simp) (fun tm n5 ps q8 hps hpl k2 k3 => ?_)
 have hpl' : ps.length = c + 1 := by simpa using hpl
 simp only [evAll, Nat.reduceBEq, ↓reduceIte, Nat.reduceEqDiff, Nat.reduceAdd, Nat.reduceLeDiff, Nat.reduceSub, Nat.reduceLT, reduceCtorEq, Int.reduceEq, Int.reduceLT, Int.reduceLE, Int.reduceNeg, loopQ, Int.reduceToNat, Nat.reduceMul, List.range'_one, k2, k3]
 exact ⟨n5, ⟨gToks (a + 1), ns, ps⟩, q8, ⟨⟨a + 1, by omega, by omega, rfl⟩, hns, by simp only; omega, by simp only; omega, by simp only; omega, by simp only; omega, hps⟩, rfl⟩
abbrev mt : GVal → Bool := fun _ => true
theorem inF_b {g : Gram} {p : GProd} {o a : Int} (h : inF g p (o, a) = true) (hr : p.right.length ≤ 5) (hc : ∀ nt, countF g nt ≤ 4) : 0 ≤ o ∧ o ≤ 5 ∧ 0 ≤ a ∧ a ≤ 7 := by
 simp only [inF, Bool.and_eq_true, decide_eq_true_eq] at h
 obtain ⟨h1, h2, h3, _⟩ := h
 have := hc (occF p o).1
 refine ⟨?_, ?_, h2, by omega⟩
 ·unfold occF at h1
  split at h1
  ·omega
  ·split at h1
   ·simp at h1
   ·omega
 ·unfold occF at h1
  split at h1
  ·omega
  ·split at h1
   ·simp at h1
   ·omega
theorem text_b {p : GProd} {o : Int} (h : badText p 2 o = false) (hr : p.right.length ≤ 5) : 0 ≤ o ∧ o ≤ 5 := by
 simp only [badText, decide_true, Bool.true_or, Bool.true_and, Bool.or_eq_false_iff, decide_eq_false_iff_not] at h
 omega
structure Fine (g : Gram) (p : GProd) (e : Exp) (k n : Nat) : Prop where
 all : AllV isNum e
 may : ∀ d : Int, (k : Int) < d → mayE mt e d = true
 text : textsF p e = true
 refs : ∀ x ∈ refsF e, inF g p x = true
 few : (refsF e).length ≤ n
theorem InOk.fine {g : Gram} {p : GProd} {e : Exp} (h : InOk g p e) (hr : p.right.length ≤ 5) (hc : ∀ nt, countF g nt ≤ 4) : Fine g p e 0 1 := by
 cases h with
 | ref o a h =>
  obtain ⟨b1, b2, b3, b4⟩ := inF_b h hr hc
  refine ⟨.mk (fun h => by simp [refE, Exp.op] at h) (fun x hx => by simp [refE, Exp.args] at hx) (by simp [refE, Exp.args]), fun d hd => ?_, rfl, fun x hx => ?_, ?_⟩
  ·have e1 : (1 : Int) ≤ d := by omega
   have t : takesF 1 = 0 := rfl
   simp only [refE, mayE, mayAll, t, decide_eq_true e1, fieldsF, zeroF, GVal.kind, GVal.i, GVal.s, GVal.l, decide_eq_true b1, decide_eq_true b3]
   simp [b2, b4]
  ·simp only [refE, refsF, refsAllF, if_true, List.append_nil, List.mem_singleton] at hx
   rw [hx]; exact h
  ·simp [refE, refsF, refsAllF]
 | text o h =>
  obtain ⟨b1, b2⟩ := text_b h hr
  refine ⟨.mk (fun h => by simp [textE, Exp.op] at h) (fun x hx => by simp [textE, Exp.args] at hx) (by simp [textE, Exp.args]), fun d hd => ?_, ?_, fun x hx => ?_, ?_⟩
  ·have e1 : (1 : Int) ≤ d := by omega
   have t : takesF 2 = 0 := rfl
   simp only [textE, mayE, mayAll, t, decide_eq_true e1, fieldsF, zeroF, GVal.kind, GVal.i, GVal.s, GVal.l, decide_eq_true b1]
   simp [b2]
  ·simp only [textE, textsF, textsAll, h]; rfl
  ·simp [textE, refsF, refsAllF] at hx
  ·simp [textE, refsF, refsAllF]
theorem Built.fine {g : Gram} {p : GProd} {k : Nat} {e : Exp} (h : Built g p k e) (hr : p.right.length ≤ 5) (hc : ∀ nt, countF g nt ≤ 4) : Fine g p e k k := by
 induction h with
 | num x h0 h1 =>
  refine ⟨.mk (fun _ => ⟨rfl, rfl, rfl⟩) (fun x hx => by simp [numE, Exp.args] at hx) (by simp [numE, Exp.args]), fun d hd => ?_, rfl, fun x hx => ?_, ?_⟩
  ·have e1 : (1 : Int) ≤ d := by omega
   have t : takesF 0 = 0 := rfl
   simp only [numE, mayE, mayAll, t, decide_eq_true e1, fieldsF, GVal.kind]
   rfl
  ·simp [numE, refsF, refsAllF] at hx
  ·simp [numE, refsF, refsAllF]
 | @op k o e i ho hb hi ih =>
  have fi := hi.fine hr hc
  have o0 : o ≠ 0 := by omega
  have o1 : o ≠ 1 := by omega
  have o2 : o ≠ 2 := by omega
  have o3 : o ≠ 3 := by omega
  refine ⟨.mk (fun h => absurd h o0) (fun x hx => ?_) (by simp [Exp.args]), fun d hd => ?_, ?_, fun x hx => ?_, ?_⟩
  ·simp only [Exp.args, List.mem_cons, List.not_mem_nil, or_false] at hx
   rcases hx with rfl | rfl
   ·exact ih.all
   ·exact fi.all
  ·have e1 : (1 : Int) ≤ d := by omega
   have m1 := ih.may (d - 1) (by omega)
   have m2 := fi.may (d - 1) (by omega)
   simp only [mayE, mayAll, m1, m2, decide_eq_true e1, fieldsF, if_neg o0, if_neg o1, if_neg o2, if_neg o3, zeroF, GVal.kind, GVal.i, GVal.s, GVal.l]
   rcases ho with rfl | rfl | rfl | rfl <;> rfl
  ·have bt : badText p o 0 = false := by simp only [badText, decide_eq_false o2, decide_eq_false o3, Bool.or_self, Bool.false_and]
   simp only [textsF, textsAll, bt, ih.text, fi.text]; rfl
  ·simp only [refsF, if_neg o1, refsAllF, List.nil_append, List.append_nil, List.mem_append] at hx
   rcases hx with hx | hx
   ·exact ih.refs x hx
   ·exact fi.refs x hx
  ·have := ih.few; have := fi.few
   simp only [refsF, if_neg o1, refsAllF, List.nil_append, List.append_nil, List.length_append]
   omega
def rGood (mv : GVal → Bool) (g : Gram) (p : GProd) (r : GRule) : Prop := mayE mv r.e 12 = true ∧ textsF p r.e = true ∧ ∀ x ∈ refsF r.e, inF g p x = true
theorem rules_all {mv : GVal → Bool} {g : Gram} {p : GProd} : ∀ (rs : List GRule), (∀ r ∈ rs, rGood mv g p r) → rulesF mv g p rs (rs.map GRule.at_) = (true, [])
 | [], _ => rfl
 | r :: rs, h => by
  obtain ⟨h1, h2, h3⟩ := h r List.mem_cons_self
  have hl : r.at_ ∈ (r :: rs).map GRule.at_ := List.mem_cons_self
  have ha : ruleAll mv g p ((r :: rs).map GRule.at_) r = true := by
   have : ((refsF r.e).any fun x => !inF g p x) = false := by
    rw [List.any_eq_false]
    intro x hx
    simp [h3 x hx]
   simp only [ruleAll, ruleB, decide_eq_true hl, h1, h2, this]; rfl
  have ih := rules_all rs (fun r' hr' => h r' (List.mem_cons_of_mem _ hr'))
  rw [rulesF, if_pos ha, List.map_cons, List.erase_cons_head]
  exact ih
theorem MadeG.ok {g : Gram} (h : MadeG g) : g.Ok := by
 obtain ⟨t, h1, h2, h3⟩ := h.toks
 have := h.n1; have := h.p1
 exact ⟨by rw [h3, gToks_len]; omega, by omega, by omega, nts_len h.nts, fun p hp => (h.prods p hp).ok⟩
theorem MadeG.count {g : Gram} (h : MadeG g) (i : Int) : countF g i ≤ 4 := nts_count h.nts g.toks g.prods i
theorem MadeG.rule {g : Gram} (h : MadeG g) {p : GProd} (hp : p ∈ g.prods) {r : GRule} (hr : r ∈ p.rules) : Fine g p r.e 2 2 := by
 obtain ⟨k, hk, hb⟩ := (h.prods p hp).made r hr
 have hb' : Built g p k r.e := hb.same g.prods p.rules
 have f := hb'.fine (h.prods p hp).right h.count
 exact ⟨f.all, fun d hd => f.may d (by omega), f.text, f.refs, by have := f.few; omega⟩
theorem MadeG.wants {g : Gram} (h : MadeG g) {p : GProd} (hp : p ∈ g.prods) : p.rules.map GRule.at_ = wantsF g p := by
 rw [(h.prods p hp).rules]; exact wants_same ..
theorem MadeG.good {g : Gram} (h : MadeG g) {p : GProd} (hp : p ∈ g.prods) : p.Good isNum := ⟨(h.prods p hp).ok, fun r hr => ⟨(h.rule hp hr).all, by have := (h.rule hp hr).few; omega⟩⟩
theorem MadeG.prod {g : Gram} (h : MadeG g) {p : GProd} (hp : p ∈ g.prods) : prodF mt g p = true := by
 have e := rules_all (mv := mt) (g := g) (p := p) p.rules (fun r hr => ⟨(h.rule hp hr).may 12 (by omega), (h.rule hp hr).text, (h.rule hp hr).refs⟩)
 unfold prodF
 rw [← h.wants hp, e]
 rfl
theorem badNt_ok {k : Nat} {n : GNt} (h : NtOk k n) : badNt n = false := by
 obtain ⟨_, ⟨a, ha, e1⟩, _, ⟨b, hb, e2⟩⟩ := h
 have ha' : a = 0 ∨ a = 1 ∨ a = 2 := by omega
 have hb' : b = 0 ∨ b = 1 ∨ b = 2 := by omega
 unfold badNt
 rw [e1, e2]
 rcases ha' with rfl | rfl | rfl <;> rcases hb' with rfl | rfl | rfl <;> decide
theorem nts_names {ns : List GNt} (h : NtsOk ns) : ns.map GNt.name = (List.range ns.length).map fun k => [110, letter k] := by
 apply List.ext_getElem
 ·simp
 ·intro i h1 h2
  simp only [List.getElem_map, List.getElem_range]
  exact (h i (by simpa using h1)).name
theorem names_ok12 : ∀ t, 1 ≤ t → t ≤ 3 → ∀ n, 1 ≤ n → n ≤ 4 → namesF ((gToks t).map GTok.name ++ (List.range n).map fun k => [110, letter k]) = true := by
 intro t h1 h2 n h3 h4
 have ht : t = 1 ∨ t = 2 ∨ t = 3 := by omega
 have hn : n = 1 ∨ n = 2 ∨ n = 3 ∨ n = 4 := by omega
 rcases ht with rfl | rfl | rfl <;> rcases hn with rfl | rfl | rfl | rfl <;> decide
theorem MadeG.gmay {g : Gram} (h : MadeG g) : gmayF g = true := by
 obtain ⟨t, h1, h2, h3⟩ := h.toks
 have h4 := h.n0; have h5 := h.n1; have h6 := h.p0; have h7 := h.p1
 have hl : g.toks.length = t := by rw [h3, gToks_len]
 have b1 : g.nts.any badNt = false := by
  rw [List.any_eq_false]
  intro n hn
  obtain ⟨k, hk, rfl⟩ := List.getElem_of_mem hn
  simp [badNt_ok (h.nts k hk)]
 have b2 : namesF (g.toks.map GTok.name ++ g.nts.map GNt.name) = true := by
  rw [h3, nts_names h.nts]; exact names_ok12 t h1 h2 _ h4 h5
 have b3 : (g.prods.any fun p => !gprodF g p) = false := by
  rw [List.any_eq_false]
  intro p hp
  have m := h.prods p hp
  have e1 : ((p.right.length : Int) ≤ 5) := by have := m.right; omega
  have e2 : (p.right.any fun s => !symF g s) = false := by
   rw [List.any_eq_false]
   intro s hs
   have : symF g s = true := m.syms s hs
   simp [this]
  simp only [gprodF, decide_eq_true m.l0, decide_eq_true m.l1, decide_eq_true e1, e2]
  simp
 have e1 : (g.toks.length : Int) ≤ 8 := by omega
 have e2 : (g.nts.length : Int) ≤ 8 := by omega
 have e3 : (g.prods.length : Int) ≤ 16 := by omega
 have e4 : 1 ≤ g.toks.length := by omega
 simp only [gmayF, b1, b2, b3, decide_eq_true e1, decide_eq_true e2, decide_eq_true e3, decide_eq_true e4, decide_eq_true h4, decide_eq_true h6]
 rfl
theorem MadeG.amay {g : Gram} (h : MadeG g) : amayF mt g = true := by
 have b1 : startF g = true := by
  unfold startF
  cases hn : g.nts with
  | nil => have := h.n0; rw [hn] at this; simp at this
  | cons n r =>
   have h0 := h.nts 0 (by have := h.n0; omega)
   have := h0.first rfl
   simp only [hn, List.getElem_cons_zero] at this
   simp only [this]; rfl
 have b2 : (g.prods.any fun p => !prodF mt g p) = false := by
  rw [List.any_eq_false]
  intro p hp
  simp [h.prod hp]
 simp only [amayF, h.gmay, b1, b2]; rfl
def lend2 (C : CallF) (key : Nat) (h : List (Option Obj)) : Option (List V) → Option (V × List (Option Obj))
 | some ds => lendO h (C key ds [])
 | none => none
theorem evLd :
  (∀ (C : CallF) (K : St → List Foot → Prop) (b : Nat) (dst : Option Nat) (key : Nat) (r : List CO) (j : Nat) (tm : List (Nat × V)) (hp : List (Option Obj)) (es : List Foot) (vs : List V), goLend C K b dst key r j tm hp es (some vs) = goCall C K b dst 0 r j tm hp es (ent1 (frzCall .lend C) (objT hp) key 0 (b + j) (some vs))) ∧
  (∀ (C : CallF) (key : Nat) (as : List V) (h : List (Option Obj)), frzCall .lend C key as h = lend2 C key h (lendArgs (objT h) as)) ∧
  (∀ (C : CallF) (key : Nat) (h : List (Option Obj)) (ds : List V), lend2 C key h (some ds) = lendO h (C key ds [])) ∧
  (∀ (h : List (Option Obj)) (x : Bool), lendO h (some (.d (.b x), [])) = some (.d (.b x), h)) ∧
  (∀ (obj : Nat → Option Obj) (a b c : D), lendArgs obj [.agg [.d a, .d b, .d c]] = some [.agg [.d a, .d b, .d c]]) ∧
  (∀ (key : Nat) (as : List A), Cop.nmk (.lend key as) = 0) := by
 refine ⟨fun _ _ _ _ _ _ _ _ _ _ _ => rfl, ?_, fun _ _ _ _ => rfl, fun _ _ => rfl, fun _ _ _ _ => rfl, fun _ _ => rfl⟩
 intro C key as h
 rw [frz_lend]
 cases lendArgs (objT h) as <;> rfl
theorem stA_prod {g : Gram} {k : Nat} {p : GProd} (hk : k < g.prods.length) (hp : g.prods[k] = p) (id j v m : Nat) (hp' : List (Option Obj)) : stA 1 id 1 k 2 hp' (some [.arr j v 0 m]) (some (.arr 1 3 ((g.prods.map GProd.row).map ofDs))) = some (hp'.set id (some (.arr 1 3 (((g.prods.map GProd.row).map ofDs).set k [.d (.i .i64 p.left), .d (.l 2 (p.right.map GSym.row)), .arr j v 0 m])))) := by
 have e1 : ((g.prods.map GProd.row).map ofDs)[k]? = some (ofDs p.row) := by
  simp only [List.getElem?_map, List.getElem?_eq_getElem hk, hp, Option.map_some]
 have e2 : over (ofDs p.row) 2 [.arr j v 0 m] = some [.d (.i .i64 p.left), .d (.l 2 (p.right.map GSym.row)), .arr j v 0 m] := rfl
 unfold stA
 simp only [if_true, e1, e2]
 rfl
theorem refs_set (r : List V) : ∀ (X : List (List D)) (k : Nat), k < X.length → refsRows ((X.map ofDs).set k r) = V.refsAll r
 | [], k, h => by simp at h
 | x :: X, 0, _ => by simp only [List.map_cons, List.set_cons_zero, refsRows, refsRows_ofDs, List.append_nil]
 | x :: X, k + 1, h => by
  have := refs_set r X k (by simpa using h)
  simp only [List.map_cons, List.set_cons_succ, refsRows, refs_ofDs, List.nil_append, this]
theorem ren_set (f sh : Nat → Nat) (r : List V) : ∀ (X : List (List D)) (k : Nat), renRows f sh ((X.map ofDs).set k r) = (X.map ofDs).set k (V.renAll f sh r)
 | [], k => by simp [renRows]
 | x :: X, 0 => by simp only [List.map_cons, List.set_cons_zero, renRows, renRows_ofDs]
 | x :: X, k + 1 => by simp only [List.map_cons, List.set_cons_succ, renRows, ren_ofDs, ren_set f sh r X k]
theorem lend_set {obj : Nat → Option Obj} {r : List V} {d : List D} (hr : ∀ f, 1100 ≤ f → lendAll obj f r = some d) : ∀ (X : List (List D)) (k F : Nat), (∀ x ∈ X, x.length ≤ 20) → X.length + 1200 ≤ F → lendRows obj F ((X.map ofDs).set k r) = some (X.set k d)
 | [], k, F, hX, hF => by
  obtain ⟨f, rfl⟩ : ∃ f, F = f + 1 := ⟨F - 1, by simp at hF; omega⟩
  rfl
 | x :: X, 0, F, hX, hF => by
  obtain ⟨f, rfl⟩ : ∃ f, F = f + 1 := ⟨F - 1, by simp at hF; omega⟩
  simp only [List.length_cons] at hF
  have h1 := lendRows_ofDs obj 20 f X (fun r h => hX r (List.mem_cons_of_mem _ h)) (by omega)
  simp only [List.map_cons, List.set_cons_zero, lendRows, hr f (by omega), h1]
 | x :: X, k + 1, F, hX, hF => by
  obtain ⟨f, rfl⟩ : ∃ f, F = f + 1 := ⟨F - 1, by simp at hF; omega⟩
  simp only [List.length_cons] at hF
  have h1 := lendAll_ofDs obj f x (by have := hX x (by simp); omega)
  have h2 := lend_set hr X k f (fun r h => hX r (List.mem_cons_of_mem _ h)) (by omega)
  simp only [List.map_cons, List.set_cons_succ, lendRows, h1, h2]
theorem lend_g {obj : Nat → Option Obj} {i0 i1 v1 v2 len m k : Nat} {X Y : List (List D)} {a b t u : D} (h0 : obj i0 = some (.arr v1 3 ((X.map ofDs).set k [.d a, .d b, .arr i1 v2 0 m]))) (h1 : obj i1 = some (.arr v2 10 (Y.map ofDs)))
  (hm : m = Y.length) (hl : len = X.length) (hX : X.length ≤ 10) (hY : Y.length ≤ 100) (hx : ∀ x ∈ X, x.length ≤ 20) (hy : ∀ x ∈ Y, x.length ≤ 20) :
  lendArgs obj [.agg [.d t, .d u, .arr i0 v1 0 len]] = some [.agg [.d t, .d u, .d (.l 3 (X.set k [a, b, .l 10 Y]))]] := by
 subst hm; subst hl
 have hr : ∀ f, 1100 ≤ f → lendAll obj f [.d a, .d b, .arr i1 v2 0 Y.length] = some [a, b, .l 10 Y] := fun f hf => by
  obtain ⟨f, rfl⟩ : ∃ f', f = f' + 5 := ⟨f - 5, by omega⟩
  have h2 := lendRows_ofDs obj 20 (f + 1) Y hy (by omega)
  have e0 : V.lend obj (f + 2) (.arr i1 v2 0 Y.length) = some (.l 10 Y) := by
   simp only [V.lend, h1, List.length_map, Nat.zero_add, Nat.le_refl, and_self, if_true, h2, List.drop_zero, List.take_length]
  have ea : ∀ (g : Nat) (x : D), V.lend obj (g + 1) (.d x) = some x := fun _ _ => rfl
  have e3 : lendAll obj (f + 3) [.arr i1 v2 0 Y.length] = some [.l 10 Y] := by
   show (match V.lend obj (f + 2) (.arr i1 v2 0 Y.length), some [] with | some x, some xs => some (x :: xs) | _, _ => none) = _
   rw [e0]
  show (match some a, (match some b, lendAll obj (f + 3) [.arr i1 v2 0 Y.length] with | some x, some xs => some (x :: xs) | _, _ => none) with | some x, some xs => some (x :: xs) | _, _ => none) = _
  rw [e3]
 have e1 : V.lend obj 4093 (.arr i0 v1 0 X.length) = some (.l 3 (X.set k [a, b, .l 10 Y])) := by
  have h2 := lend_set hr X k 4092 hx (by omega)
  have tl : (X.set k [a, b, .l 10 Y]).take X.length = X.set k [a, b, .l 10 Y] := List.take_of_length_le (by simp)
  show (match obj i0 with
   | some (.arr ver' sz ys) => if v1 = ver' ∧ 0 + X.length ≤ ys.length then match lendRows obj 4092 ys with
     | some ds => some (D.l sz ((ds.drop 0).take X.length))
     | none => none
    else none
   | _ => none) = _
  rw [h0]
  simp only [List.length_set, List.length_map, Nat.zero_add, Nat.le_refl, and_self, if_true, h2, List.drop_zero, tl]
 show (match lendAll obj far [.d t, .d u, .arr i0 v1 0 X.length], lendArgs obj [] with
  | some ds, some r => some (V.agg (ofDs ds) :: r)
  | _, _ => none) = _
 have e2 : lendAll obj far [.d t, .d u, .arr i0 v1 0 X.length] = some [t, u, .l 3 (X.set k [a, b, .l 10 Y])] := by
  show (match some t, (match some u, (match V.lend obj 4093 (.arr i0 v1 0 X.length), some [] with | some x, some xs => some (x :: xs) | _, _ => none) with | some x, some xs => some (x :: xs) | _, _ => none) with | some x, some xs => some (x :: xs) | _, _ => none) = _
  rw [e1]
 rw [e2]; rfl
structure HE (E : Nat → Option Fn) : Prop where
 e172 : E 172 = some (.code c172)
 e175 : E 175 = some (.code c175)
 e191 : E 191 = some (.code c191)
def onceF (seen : List (Int × Int)) : List (Int × Int) → List (Int × Int)
 | [] => seen
 | x :: r => onceF (if x ∈ seen then seen else seen ++ [x]) r
def onLoop : CCode := match c191.body with
 | .seq _ (.seq _ (.seq (.seq _ (.block _ (.loop _ c))) _)) => c
 | _ => .skip
theorem placeP_lt {x : Int × Int} {l : List (Int × Int)} (h : x ∈ l) : placeP x l < l.length := by
 have := placeP_in h
 have := (List.getElem?_eq_some_iff.1 this).1
 simpa using this
theorem put_inP {x1 x2 : Int} {l : List (Int × Int)} (h : (x1, x2) ∈ l) : putKv (l.map kvP) [.i .i64 x1, .i .i64 x2] (.d (.b true)) (placeP (x1, x2) l) = l.map kvP := by
 have hlt := placeP_lt h
 have hg := placeP_in h
 unfold putKv
 rw [if_pos (by simpa using hlt)]
 apply List.ext_getElem?
 intro n
 by_cases e : placeP (x1, x2) l = n
 ·subst e
  rw [List.getElem?_set_self (by simpa using hlt), hg]; rfl
 ·rw [List.getElem?_set_ne e]
theorem once_loop {l : List (Int × Int)} (hl : l.length ≤ 100000) {Q : Ex → St → Prop} : ∀ (m i : Nat) (seen : List (Int × Int)), i + m = l.length → seen.length ≤ i →
  (∀ tm, look tm 2 = .own 1 0 2 ((onceF seen (l.drop i)).map pairRow) → Q (.exit 0) ⟨tm, [some (.map ((onceF seen (l.drop i)).map kvP)), some (.tok 0 2)]⟩) →
  LX E onLoop ⟨[2, 3, 7, 8, 9], [2], [], [], [], true⟩ 2 ⟨[(2, .own 1 0 2 (seen.map pairRow)), (3, .map 0), (7, .d (.l 2 (l.map pairRow))), (8, .d (.i .i64 l.length)), (9, .d (.i .i64 i))], [some (.map (seen.map kvP)), some (.tok 0 2)]⟩ Q := by
 intro m
 induction m with
 | zero =>
  intro i seen hi hs hQ
  have hn : ¬ ((i : Int) < l.length) := by omega
  rw [List.drop_eq_nil_of_le (by omega)] at hQ
  refine lx_step ?_
  simp only [evAll, Nat.reduceBEq, ↓reduceIte, Nat.reduceEqDiff, Nat.reduceAdd, Nat.reduceLeDiff, Nat.reduceSub, Nat.reduceLT, reduceCtorEq, Int.reduceEq, Int.reduceLT, Int.reduceLE, Int.reduceNeg, loopQ, Int.reduceToNat, Nat.reduceMul, List.range'_one, onLoop, c191, hn]
  exact hQ _ rfl
 | succ m ih =>
  intro i seen hi hs hQ
  have hy : (i : Int) < l.length := by omega
  have la : i < l.length := by omega
  have h0 : (0 : Int) ≤ i := by omega
  have ga : (l.map pairRow)[i]? = some [.i .i64 (l[i]).1, .i .i64 (l[i]).2] := by rw [List.getElem?_map, List.getElem?_eq_getElem la]; rfl
  have w : IntKind.i64.wrap ((i : Int) + 1) = ((i + 1 : Nat) : Int) := by rw [i64w (by omega) (by omega)]; omega
  have r2 : roomy (seen.length + 1) 16 = true := by unfold roomy; exact decide_eq_true (by omega)
  rw [List.drop_eq_getElem_cons la] at hQ
  simp only [onceF] at hQ
  generalize l[i] = x at *
  obtain ⟨x1, x2⟩ := x
  have ma := mapAt_P x1 x2 seen
  have pp := put_kvP (x := (x1, x2)) (l := seen)
  refine lx_step ?_
  by_cases hx : (x1, x2) ∈ seen
  ·rw [if_pos hx] at hQ
   have pk : lkB false (.d (.b false)) (seen.map kvP) (some (placeP (x1, x2) seen)) = some (.d (.b true)) := by simp only [lkB, placeP_in hx, got, kvP]; rfl
   have pi := put_inP hx
   simp only [evAll, Nat.reduceBEq, ↓reduceIte, Nat.reduceEqDiff, Nat.reduceAdd, Nat.reduceLeDiff, Nat.reduceSub, Nat.reduceLT, reduceCtorEq, Int.reduceEq, Int.reduceLT, Int.reduceLE, Int.reduceNeg, loopQ, Int.reduceToNat, Nat.reduceMul, List.range'_one, onLoop, c191, eq_true hy, eq_true h0, ga, ma, pk, pi, w, under_kvP, norm_kvP]
   exact ⟨_, rfl, ih (i + 1) seen (by omega) (by omega) hQ⟩
  ·rw [if_neg hx] at hQ
   have pk : lkB false (.d (.b false)) (seen.map kvP) (some (placeP (x1, x2) seen)) = some (.d (.b false)) := by
    have : (seen.map kvP)[placeP (x1, x2) seen]? = none := List.getElem?_eq_none (by rw [placeP_out hx]; simp)
    simp only [lkB, this, got]; rfl
   rw [placeP_out hx] at ma pk
   simp only [evAll, Nat.reduceBEq, ↓reduceIte, Nat.reduceEqDiff, Nat.reduceAdd, Nat.reduceLeDiff, Nat.reduceSub, Nat.reduceLT, reduceCtorEq, Int.reduceEq, Int.reduceLT, Int.reduceLE, Int.reduceNeg, loopQ, Int.reduceToNat, Nat.reduceMul, List.range'_one, onLoop, c191, eq_true hy, eq_true h0, ga, ma, pk, pp, r2, w, under_kvP, norm_kvP, List.length_map]
   have e1 : seen.map pairRow ++ [[D.i .i64 x1, .i .i64 x2]] = (seen ++ [(x1, x2)]).map pairRow := by simp [pairRow]
   rw [e1]
   exact ⟨_, rfl, ih (i + 1) (seen ++ [(x1, x2)]) (by omega) (by simp; omega) hQ⟩
theorem once_len : ∀ (l seen : List (Int × Int)), (onceF seen l).length ≤ seen.length + l.length
 | [], seen => Nat.le_refl _
 | x :: r, seen => by
  have := once_len r (if x ∈ seen then seen else seen ++ [x])
  simp only [onceF, List.length_cons]
  split at this <;> simp_all <;> omega
theorem once_ok (A : HE E) {l : List (Int × Int)} (hl : l.length ≤ 100000) : lcall E 191 [.d (.l 2 (l.map pairRow))] [] = some (.d (.l 2 ((onceF [] l).map pairRow)), []) := by
 refine call_q A.e191 ?_
 simp only [evAll, Nat.reduceBEq, ↓reduceIte, Nat.reduceEqDiff, Nat.reduceAdd, Nat.reduceLeDiff, Nat.reduceSub, Nat.reduceLT, reduceCtorEq, Int.reduceEq, Int.reduceLT, Int.reduceLE, Int.reduceNeg, loopQ, Int.reduceToNat, Nat.reduceMul, List.range'_one, c191, List.length_map]
 have h0 : ([] : List (List D × V)) = ([] : List (Int × Int)).map kvP := rfl
 have h1 : ([] : List (List D)) = ([] : List (Int × Int)).map pairRow := rfl
 rw [h0, h1]
 refine once_loop hl l.length 0 [] (by omega) (by simp) (fun tm h2 => ?_)
 rw [List.drop_zero] at h2 ⊢
 simp only [evAll, Nat.reduceBEq, ↓reduceIte, Nat.reduceEqDiff, Nat.reduceAdd, Nat.reduceLeDiff, Nat.reduceSub, Nat.reduceLT, reduceCtorEq, Int.reduceEq, Int.reduceLT, Int.reduceLE, Int.reduceNeg, loopQ, Int.reduceToNat, Nat.reduceMul, List.range'_one, h2]
def edgeRow (e : (Int × Int) × (Int × Int)) : List D := [.i .i64 e.1.1, .i .i64 e.1.2, .i .i64 e.2.1, .i .i64 e.2.2]
def ruleEdges (r : GRule) : List ((Int × Int) × (Int × Int)) := (onceF [] (refsF r.e)).map fun x => (x, r.at_)
def rulesEdges (rs : List GRule) : List ((Int × Int) × (Int × Int)) := rs.flatMap ruleEdges
def edL0 : CCode := match c172.body with
 | .seq _ (.seq _ (.seq (.seq _ (.block _ (.loop _ c))) _)) => c
 | _ => .skip
def edL2 : CCode := match edL0 with
 | .seq _ (.seq _ (.seq (.block _ (.seq _ (.seq _ (.block _ (.loop _ c))))) _)) => c
 | _ => .skip
abbrev bxR (r : GRule) : Option Obj := some (.box [.d (.i .i64 r.occ), .d (.i .i64 r.attr), .d (.i .i64 r.e.op), .d (.i .i64 r.e.v.kind), .d (.i .i64 r.e.v.i), .d (.s r.e.v.s), .d (.l 4 (gvalRows r.e.v.l)), .d (.i .i64 r.e.occ), .d (.i .i64 r.e.attr), .d (.l 8 (r.e.args.map Exp.row))])
theorem ed_in {g : Gram} {r : GRule} {v28 v29 v30 : D} {xs : List (Int × Int)} {Q : Ex → St → Prop} (hx : xs.length ≤ 100000) : ∀ (m i : Nat) (out : List ((Int × Int) × (Int × Int))), i + m = xs.length → out.length + m ≤ 1000000 →
  (∀ tm, look tm 4 = .own 1 0 4 ((out ++ (xs.drop i).map fun x => (x, r.at_)).map edgeRow) → look tm 28 = .d v28 → look tm 29 = .d v29 → look tm 30 = .d v30 → Q (.exit 2) ⟨tm, [bxG g, some (.tok 0 4), bxR r]⟩) →
  LX E edL2 ⟨[4, 6, 28, 29, 30, 37, 38, 39], [4], [], [], [], true⟩ 3 ⟨[(4, .own 1 0 4 (out.map edgeRow)), (6, .ptr 2 0), (28, .d v28), (29, .d v29), (30, .d v30), (37, .d (.l 2 (xs.map pairRow))), (38, .d (.i .i64 xs.length)), (39, .d (.i .i64 i))], [bxG g, some (.tok 0 4), bxR r]⟩ Q := by
 intro m
 induction m with
 | zero =>
  intro i out hi ho hQ
  have hn : ¬ ((i : Int) < xs.length) := by omega
  rw [List.drop_eq_nil_of_le (by omega)] at hQ
  simp only [List.map_nil, List.append_nil] at hQ
  refine lx_step ?_
  simp only [evAll, Nat.reduceBEq, ↓reduceIte, Nat.reduceEqDiff, Nat.reduceAdd, Nat.reduceLeDiff, Nat.reduceSub, Nat.reduceLT, reduceCtorEq, Int.reduceEq, Int.reduceLT, Int.reduceLE, Int.reduceNeg, loopQ, Int.reduceToNat, Nat.reduceMul, List.range'_one, edL2, edL0, c172, hn]
  exact hQ _ rfl rfl rfl rfl
 | succ m ih =>
  intro i out hi ho hQ
  have hy : (i : Int) < xs.length := by omega
  have la : i < xs.length := by omega
  have h0 : (0 : Int) ≤ i := by omega
  have ga : (xs.map pairRow)[i]? = some [.i .i64 (xs[i]).1, .i .i64 (xs[i]).2] := by rw [List.getElem?_map, List.getElem?_eq_getElem la]; rfl
  have w : IntKind.i64.wrap ((i : Int) + 1) = ((i + 1 : Nat) : Int) := by rw [i64w (by omega) (by omega)]; omega
  have r2 : roomy (out.length + 1) 32 = true := by unfold roomy; exact decide_eq_true (by omega)
  rw [List.drop_eq_getElem_cons la] at hQ
  generalize xs[i] = x at *
  have ih' := ih (i + 1) (out ++ [(x, r.at_)]) (by omega) (by simp; omega) (fun tm k1 k2 k3 k4 => hQ tm (by rw [k1]; simp) k2 k3 k4)
  simp only [List.map_append, List.map_cons, List.map_nil] at ih'
  refine lx_step ?_
  simp only [evAll, Nat.reduceBEq, ↓reduceIte, Nat.reduceEqDiff, Nat.reduceAdd, Nat.reduceLeDiff, Nat.reduceSub, Nat.reduceLT, reduceCtorEq, Int.reduceEq, Int.reduceLT, Int.reduceLE, Int.reduceNeg, loopQ, Int.reduceToNat, Nat.reduceMul, List.range'_one, edL2, edL0, c172, eq_true hy, eq_true h0, ga, r2, w, List.length_map]
  exact ⟨_, rfl, ih'⟩
theorem ed_out (A : AE E) (H : HE E) {P : GVal → Prop} {g : Gram} {rs : List GRule} (hr : ∀ r ∈ rs, AllV P r.e ∧ (refsF r.e).length ≤ 100) {Q : Ex → St → Prop} (hl : rs.length ≤ 1000) : ∀ (m i : Nat) (out : List ((Int × Int) × (Int × Int))), i + m = rs.length → out.length ≤ 100 * i →
  (∀ tm, look tm 4 = .own 1 0 4 ((out ++ rulesEdges (rs.drop i)).map edgeRow) → Q (.exit 0) ⟨tm, [bxG g, some (.tok 0 4)]⟩) →
  LX E edL0 ⟨[4, 28, 29, 30], [4], [], [], [], true⟩ 2 ⟨[(4, .own 1 0 4 (out.map edgeRow)), (28, .d (.l 10 (rs.map GRule.row))), (29, .d (.i .i64 rs.length)), (30, .d (.i .i64 i))], [bxG g, some (.tok 0 4)]⟩ Q := by
 intro m
 induction m with
 | zero =>
  intro i out hi ho hQ
  have hn : ¬ ((i : Int) < rs.length) := by omega
  rw [List.drop_eq_nil_of_le (by omega)] at hQ
  simp only [rulesEdges, List.flatMap_nil, List.append_nil] at hQ
  refine lx_step ?_
  simp only [evAll, Nat.reduceBEq, ↓reduceIte, Nat.reduceEqDiff, Nat.reduceAdd, Nat.reduceLeDiff, Nat.reduceSub, Nat.reduceLT, reduceCtorEq, Int.reduceEq, Int.reduceLT, Int.reduceLE, Int.reduceNeg, loopQ, Int.reduceToNat, Nat.reduceMul, List.range'_one, edL0, c172, hn]
  exact hQ _ rfl
 | succ m ih =>
  intro i out hi ho hQ
  have hy : (i : Int) < rs.length := by omega
  have la : i < rs.length := by omega
  have h0 : (0 : Int) ≤ i := by omega
  have ga : (rs.map GRule.row)[i]? = some (rs[i]).row := by rw [List.getElem?_map, List.getElem?_eq_getElem la]; rfl
  have w : IntKind.i64.wrap ((i : Int) + 1) = ((i + 1 : Nat) : Int) := by rw [i64w (by omega) (by omega)]; omega
  obtain ⟨hr1, hr2⟩ := hr _ (List.getElem_mem la)
  rw [List.drop_eq_getElem_cons la] at hQ
  generalize rs[i] = r at *
  have c1 := refs_ok A (sizeOf r.e + 1) r.e (by omega) hr1 (by omega)
  have c2 := once_ok H (l := refsF r.e) (by omega)
  have ol := once_len (refsF r.e) []
  simp only [List.length_nil, Nat.zero_add] at ol
  have hen : (ruleEdges r).length ≤ 100 := by simp only [ruleEdges, List.length_map]; omega
  have st := ed_in (E := E) (g := g) (r := r) (v28 := .l 10 (rs.map GRule.row)) (v29 := .i .i64 rs.length) (v30 := .i .i64 i) (xs := onceF [] (refsF r.e)) (by omega)
   (Q := blockQ 2 (blockQ 1 (seqQ E (.region false [⟨some 54, .bin .add (.t 30) (.k (.d (.i .i64 1))), none, 0⟩, ⟨some 30, .mv (.t 54), none, 0⟩]) (loopQ E edL0 ⟨[4, 28, 29, 30], [4], [], [], [], true⟩ 2 Q))))
   (onceF [] (refsF r.e)).length 0 out (by omega) (by omega) (fun tm k1 k2 k3 k4 => ?_)
  ·refine lx_step ?_
   simp only [evAll, Nat.reduceBEq, ↓reduceIte, Nat.reduceEqDiff, Nat.reduceAdd, Nat.reduceLeDiff, Nat.reduceSub, Nat.reduceLT, reduceCtorEq, Int.reduceEq, Int.reduceLT, Int.reduceLE, Int.reduceNeg, loopQ, Int.reduceToNat, Nat.reduceMul, List.range'_one, edL0, c172, eq_true hy, eq_true h0, ga, GRule.row, c1, c2, List.length_map]
   exact st
  ·rw [List.drop_zero] at k1
   have ih' := ih (i + 1) (out ++ ruleEdges r) (by omega) (by simp; omega) (fun tm k => hQ tm (by rw [k]; simp [rulesEdges]))
   simp only [ruleEdges] at ih'
   simp only [evAll, Nat.reduceBEq, ↓reduceIte, Nat.reduceEqDiff, Nat.reduceAdd, Nat.reduceLeDiff, Nat.reduceSub, Nat.reduceLT, reduceCtorEq, Int.reduceEq, Int.reduceLT, Int.reduceLE, Int.reduceNeg, loopQ, Int.reduceToNat, Nat.reduceMul, List.range'_one, k1, k2, k3, k4, w]
   exact ⟨_, rfl, ih'⟩
theorem edges_ok (A : AE E) (H : HE E) {P : GVal → Prop} {g : Gram} (hg : g.Ok) (cm : lcall E 169 [g.arg] [] = some (.d (.b true), [])) {k : Nat} (hk : k < g.prods.length) (hr : ∀ r ∈ (g.prods[k]).rules, AllV P r.e ∧ (refsF r.e).length ≤ 100) :
  lcall E 172 [g.arg, .d (.i .i64 k)] [] = some (.d (.l 4 ((rulesEdges (g.prods[k]).rules).map edgeRow)), []) := by
 have hp := hg.prods
 have hrl := (hg.prod _ (List.getElem_mem hk)).rules
 have g0 : ¬ (k : Int) < 0 := by omega
 have g1 : ¬ (k : Int) ≥ (g.prods.length : Int) := by omega
 have z0 : (0 : Int) ≤ (k : Int) := by omega
 have ga : (g.prods.map GProd.row)[k]? = some [.i .i64 (g.prods[k]).left, .l 2 ((g.prods[k]).right.map GSym.row), .l 10 ((g.prods[k]).rules.map GRule.row)] := by rw [List.getElem?_map, List.getElem?_eq_getElem hk]; rfl
 generalize g.prods[k] = p at *
 refine call_q H.e172 ?_
 simp only [evAll, Nat.reduceBEq, ↓reduceIte, Nat.reduceEqDiff, Nat.reduceAdd, Nat.reduceLeDiff, Nat.reduceSub, Nat.reduceLT, reduceCtorEq, Int.reduceEq, Int.reduceLT, Int.reduceLE, Int.reduceNeg, loopQ, Int.reduceToNat, Nat.reduceMul, List.range'_one, c172, evLd, cm, g0, g1, List.length_map, ga, eq_true z0]
 have h1 : ([] : List (List D)) = ([] : List ((Int × Int) × (Int × Int))).map edgeRow := rfl
 rw [h1]
 refine ed_out A H (g := g) (rs := p.rules) hr hrl p.rules.length 0 [] (by omega) (by simp) (fun tm k1 => ?_)
 rw [List.drop_zero, List.nil_append] at k1
 simp only [evAll, Nat.reduceBEq, ↓reduceIte, Nat.reduceEqDiff, Nat.reduceAdd, Nat.reduceLeDiff, Nat.reduceSub, Nat.reduceLT, reduceCtorEq, Int.reduceEq, Int.reduceLT, Int.reduceLE, Int.reduceNeg, loopQ, Int.reduceToNat, Nat.reduceMul, List.range'_one, k1]
abbrev Edge := (Int × Int) × (Int × Int)
theorem eqDs_E (a b : Edge) : eqDs [.i, .i, .i, .i] [.i .i64 a.1.1, .i .i64 a.1.2, .i .i64 a.2.1, .i .i64 a.2.2] [.i .i64 b.1.1, .i .i64 b.1.2, .i .i64 b.2.1, .i .i64 b.2.2] = some (decide (a = b)) := by
 have h : eqDs [.i, .i, .i, .i] [.i .i64 a.1.1, .i .i64 a.1.2, .i .i64 a.2.1, .i .i64 a.2.2] [.i .i64 b.1.1, .i .i64 b.1.2, .i .i64 b.2.1, .i .i64 b.2.2] = some (a.1.1 == b.1.1 && (a.1.2 == b.1.2 && (a.2.1 == b.2.1 && (a.2.2 == b.2.2 && true)))) := rfl
 rw [h]
 congr 1
 rw [Bool.eq_iff_iff]
 obtain ⟨⟨a1, a2⟩, ⟨a3, a4⟩⟩ := a
 obtain ⟨⟨b1, b2⟩, ⟨b3, b4⟩⟩ := b
 simp [Prod.mk.injEq, and_assoc]
theorem edges_len {rs : List GRule} (h : ∀ r ∈ rs, (refsF r.e).length ≤ 100) : (rulesEdges rs).length ≤ 100 * rs.length := by
 induction rs with
 | nil => simp [rulesEdges]
 | cons r rs ih =>
  have i1 := ih (fun r' hr' => h r' (List.mem_cons_of_mem _ hr'))
  have i2 := h r List.mem_cons_self
  have i3 := once_len (refsF r.e) []
  simp only [rulesEdges, List.flatMap_cons, List.length_append, ruleEdges, List.length_map, List.length_cons, List.length_nil] at *
  omega
abbrev hpT (g : Gram) (k : Nat) (p : GProd) (rs : List GRule) (b : Option Obj) : List (Option Obj) := [some (.arr 1 3 (((g.prods.map GProd.row).map ofDs).set k [.d (.i .i64 p.left), .d (.l 2 (p.right.map GSym.row)), .arr 1 2 0 rs.length])), some (.arr 2 10 ((rs.map GRule.row).map ofDs)), some (.box [.d (.l 3 (g.toks.map GTok.row)), .d (.l 3 (g.nts.map GNt.row)), .arr 0 1 0 g.prods.length]), b]
theorem under_ofDs (n : Nat) : ∀ (ds : List D), V.underAll n (ofDs ds) = true
 | [] => rfl
 | d :: ds => by
  have := under_ofDs n ds
  show (V.under n (.d d) && V.underAll n (ofDs ds)) = true
  rw [this]; rfl
theorem und_ofDs (n : Nat) (Y : List (List D)) : underRows n (Y.map ofDs) = true := by
 induction Y with
 | nil => rfl
 | cons y Y ih => simp only [List.map_cons, underRows, ih, Bool.and_true]; exact under_ofDs n y
theorem nrm_ofDs (h : List (Option Obj)) (Y : List (List D)) : (Y.map ofDs).map (fun r => r.map (normC h)) = Y.map ofDs := by
 rw [List.map_map]
 apply List.map_congr_left
 intro x _
 simp only [Function.comp, ofDs, List.map_map]
 apply List.map_congr_left
 intro y _
 rfl
theorem nrm_set (h : List (Option Obj)) (r : List V) (hr : r.map (normC h) = r) (Y : List (List D)) (k : Nat) : ((Y.map ofDs).set k r).map (fun r => r.map (normC h)) = (Y.map ofDs).set k r := by
 rw [List.map_set, nrm_ofDs, hr]
theorem und_set (n : Nat) (r : List V) (h : V.underAll n r = true) : ∀ (X : List (List D)) (k : Nat), underRows n ((X.map ofDs).set k r) = true
 | [], k => by simp [underRows]
 | x :: X, 0 => by
  simp only [List.map_cons, List.set_cons_zero, underRows, h, und_ofDs, Bool.and_self]
 | x :: X, k + 1 => by
  simp only [List.map_cons, List.set_cons_succ, underRows, und_set n r h X k, Bool.and_true]
  exact under_ofDs n x
section
variable {g : Gram} {k : Nat} {p : GProd} {rs : List GRule}
theorem ed_inT {r : GRule} {v29 v30 : D} {xs : List (Int × Int)} {Q : Ex → St → Prop} (hx : xs.length ≤ 100000) : ∀ (m i : Nat) (out : List Edge), i + m = xs.length → out.length + m ≤ 1000000 →
  (∀ tm, look tm 4 = .own 3 0 4 ((out ++ (xs.drop i).map fun x => (x, r.at_)).map edgeRow) → look tm 28 = .arr 1 2 0 rs.length → look tm 29 = .d v29 → look tm 30 = .d v30 → Q (.exit 2) ⟨tm, hpT g k p rs (some (.tok 0 4)) ++ [bxR r]⟩) →
  LX E edL2 ⟨[4, 6, 28, 29, 30, 37, 38, 39], [4], [], [], [], true⟩ 5 ⟨[(4, .own 3 0 4 (out.map edgeRow)), (6, .ptr 4 0), (28, .arr 1 2 0 rs.length), (29, .d v29), (30, .d v30), (37, .d (.l 2 (xs.map pairRow))), (38, .d (.i .i64 xs.length)), (39, .d (.i .i64 i))], hpT g k p rs (some (.tok 0 4)) ++ [bxR r]⟩ Q := by
 intro m
 induction m with
 | zero =>
  intro i out hi ho hQ
  have hn : ¬ ((i : Int) < xs.length) := by omega
  rw [List.drop_eq_nil_of_le (by omega)] at hQ
  simp only [List.map_nil, List.append_nil] at hQ
  refine lx_step ?_
  simp only [evAll, Nat.reduceBEq, ↓reduceIte, Nat.reduceEqDiff, Nat.reduceAdd, Nat.reduceLeDiff, Nat.reduceSub, Nat.reduceLT, reduceCtorEq, Int.reduceEq, Int.reduceLT, Int.reduceLE, Int.reduceNeg, loopQ, Int.reduceToNat, Nat.reduceMul, List.range'_one, edL2, edL0, c172, hn, List.cons_append, List.nil_append]
  exact hQ _ rfl rfl rfl rfl
 | succ m ih =>
  intro i out hi ho hQ
  have hy : (i : Int) < xs.length := by omega
  have la : i < xs.length := by omega
  have h0 : (0 : Int) ≤ i := by omega
  have ga : (xs.map pairRow)[i]? = some [.i .i64 (xs[i]).1, .i .i64 (xs[i]).2] := by rw [List.getElem?_map, List.getElem?_eq_getElem la]; rfl
  have w : IntKind.i64.wrap ((i : Int) + 1) = ((i + 1 : Nat) : Int) := by rw [i64w (by omega) (by omega)]; omega
  have r2 : roomy (out.length + 1) 32 = true := by unfold roomy; exact decide_eq_true (by omega)
  rw [List.drop_eq_getElem_cons la] at hQ
  generalize xs[i] = x at *
  have ih' := ih (i + 1) (out ++ [(x, r.at_)]) (by omega) (by simp; omega) (fun tm k1 k2 k3 k4 => hQ tm (by rw [k1]; simp) k2 k3 k4)
  simp only [List.map_append, List.map_cons, List.map_nil] at ih'
  have us : underRows 5 (((g.prods.map GProd.row).map ofDs).set k [.d (.i .i64 p.left), .d (.l 2 (p.right.map GSym.row)), .arr 1 2 0 rs.length]) = true := und_set 5 _ rfl _ _
  have un : ∀ (a b c d : Option Obj) (v : Nat) (xs' : List (List V)), (((g.prods.map GProd.row).map ofDs).set k [.d (.i .i64 p.left), .d (.l 2 (p.right.map GSym.row)), .arr 1 2 0 rs.length]).map (fun r => r.map (normC [a, some (.arr 2 10 xs'), b, c, d])) = ((g.prods.map GProd.row).map ofDs).set k [.d (.i .i64 p.left), .d (.l 2 (p.right.map GSym.row)), .arr 1 2 0 rs.length] := fun a b c d v xs' => nrm_set _ _ rfl _ _
  refine lx_step ?_
  simp only [evAll, Nat.reduceBEq, ↓reduceIte, Nat.reduceEqDiff, Nat.reduceAdd, Nat.reduceLeDiff, Nat.reduceSub, Nat.reduceLT, reduceCtorEq, Int.reduceEq, Int.reduceLT, Int.reduceLE, Int.reduceNeg, loopQ, Int.reduceToNat, Nat.reduceMul, List.range'_one, edL2, edL0, c172, eq_true hy, eq_true h0, ga, r2, w, List.length_map, List.cons_append, List.nil_append, us, un, und_ofDs, nrm_ofDs]
  refine ⟨_, rfl, ?_⟩
  rw [un _ _ _ _ 0]
  exact ih'
end
variable {E : Nat → Option Fn} {g : Gram} {k : Nat} {p : GProd} {rs : List GRule}
theorem ed_outT (A : AE E) (H : HE E) {P : GVal → Prop} (hr : ∀ r ∈ rs, AllV P r.e ∧ (refsF r.e).length ≤ 100) {Q : Ex → St → Prop} (hl : rs.length ≤ 1000) : ∀ (m i : Nat) (out : List Edge), i + m = rs.length → out.length ≤ 100 * i →
  (∀ tm, look tm 4 = .own 3 0 4 ((out ++ rulesEdges (rs.drop i)).map edgeRow) → Q (.exit 0) ⟨tm, hpT g k p rs (some (.tok 0 4))⟩) →
  LX E edL0 ⟨[4, 28, 29, 30], [4], [], [], [], true⟩ 4 ⟨[(4, .own 3 0 4 (out.map edgeRow)), (28, .arr 1 2 0 rs.length), (29, .d (.i .i64 rs.length)), (30, .d (.i .i64 i))], hpT g k p rs (some (.tok 0 4))⟩ Q := by
 intro m
 induction m with
 | zero =>
  intro i out hi ho hQ
  have hn : ¬ ((i : Int) < rs.length) := by omega
  rw [List.drop_eq_nil_of_le (by omega)] at hQ
  simp only [rulesEdges, List.flatMap_nil, List.append_nil] at hQ
  refine lx_step ?_
  simp only [evAll, Nat.reduceBEq, ↓reduceIte, Nat.reduceEqDiff, Nat.reduceAdd, Nat.reduceLeDiff, Nat.reduceSub, Nat.reduceLT, reduceCtorEq, Int.reduceEq, Int.reduceLT, Int.reduceLE, Int.reduceNeg, loopQ, Int.reduceToNat, Nat.reduceMul, List.range'_one, edL0, c172, hn]
  exact hQ _ rfl
 | succ m ih =>
  intro i out hi ho hQ
  have hy : (i : Int) < rs.length := by omega
  have la : i < rs.length := by omega
  have h0 : (0 : Int) ≤ i := by omega
  have ga : ((rs.map GRule.row).map ofDs)[i]? = some (gRow rs[i]) := by simp only [List.getElem?_map, List.getElem?_eq_getElem la, Option.map_some]; rfl
  have w : IntKind.i64.wrap ((i : Int) + 1) = ((i + 1 : Nat) : Int) := by rw [i64w (by omega) (by omega)]; omega
  obtain ⟨hr1, hr2⟩ := hr _ (List.getElem_mem la)
  rw [List.drop_eq_getElem_cons la] at hQ
  generalize rs[i] = r at *
  have c1 := refs_ok A (sizeOf r.e + 1) r.e (by omega) hr1 (by omega)
  have c2 := once_ok H (l := refsF r.e) (by omega)
  have ol := once_len (refsF r.e) []
  simp only [List.length_nil, Nat.zero_add] at ol
  have hen : (ruleEdges r).length ≤ 100 := by simp only [ruleEdges, List.length_map]; omega
  have us : underRows 4 (((g.prods.map GProd.row).map ofDs).set k [.d (.i .i64 p.left), .d (.l 2 (p.right.map GSym.row)), .arr 1 2 0 rs.length]) = true := und_set 4 _ rfl _ _
  have us5 : underRows 5 (((g.prods.map GProd.row).map ofDs).set k [.d (.i .i64 p.left), .d (.l 2 (p.right.map GSym.row)), .arr 1 2 0 rs.length]) = true := und_set 5 _ rfl _ _
  have un : ∀ (a b c : Option Obj) (xs' : List (List V)), (((g.prods.map GProd.row).map ofDs).set k [.d (.i .i64 p.left), .d (.l 2 (p.right.map GSym.row)), .arr 1 2 0 rs.length]).map (fun r => r.map (normC [a, some (.arr 2 10 xs'), b, c])) = ((g.prods.map GProd.row).map ofDs).set k [.d (.i .i64 p.left), .d (.l 2 (p.right.map GSym.row)), .arr 1 2 0 rs.length] := fun a b c xs' => nrm_set _ _ rfl _ _
  have st := ed_inT (E := E) (g := g) (k := k) (p := p) (rs := rs) (r := r) (v29 := .i .i64 rs.length) (v30 := .i .i64 i) (xs := onceF [] (refsF r.e)) (by omega)
   (Q := blockQ 2 (blockQ 1 (seqQ E (.region false [⟨some 54, .bin .add (.t 30) (.k (.d (.i .i64 1))), none, 0⟩, ⟨some 30, .mv (.t 54), none, 0⟩]) (loopQ E edL0 ⟨[4, 28, 29, 30], [4], [], [], [], true⟩ 4 Q))))
   (onceF [] (refsF r.e)).length 0 out (by omega) (by omega) (fun tm k1 k2 k3 k4 => ?_)
  ·refine lx_step ?_
   simp only [evAll, Nat.reduceBEq, ↓reduceIte, Nat.reduceEqDiff, Nat.reduceAdd, Nat.reduceLeDiff, Nat.reduceSub, Nat.reduceLT, reduceCtorEq, Int.reduceEq, Int.reduceLT, Int.reduceLE, Int.reduceNeg, loopQ, Int.reduceToNat, Nat.reduceMul, List.range'_one, edL0, c172, eq_true hy, eq_true h0, ga, and_self, c1, c2, List.length_map]
   exact st
  ·rw [List.drop_zero] at k1
   have ih' := ih (i + 1) (out ++ ruleEdges r) (by omega) (by simp; omega) (fun tm k => hQ tm (by rw [k]; simp [rulesEdges]))
   simp only [ruleEdges] at ih'
   simp only [evAll, Nat.reduceBEq, ↓reduceIte, Nat.reduceEqDiff, Nat.reduceAdd, Nat.reduceLeDiff, Nat.reduceSub, Nat.reduceLT, reduceCtorEq, Int.reduceEq, Int.reduceLT, Int.reduceLE, Int.reduceNeg, loopQ, Int.reduceToNat, Nat.reduceMul, List.range'_one, k1, k2, k3, k4, w, List.cons_append, List.nil_append, us, und_ofDs, nrm_ofDs]
   refine ⟨_, rfl, ?_⟩
   rw [un]
   exact ih'
def EdT (g : Gram) (k : Nat) (p : GProd) (rs : List GRule) (x : V × List (Option Obj)) : Prop := x = (.d (.l 4 ((rulesEdges rs).map edgeRow)), [some (.arr 1 3 (((g.prods.map GProd.row).map ofDs).set k [.d (.i .i64 p.left), .d (.l 2 (p.right.map GSym.row)), .arr 1 2 0 rs.length])), some (.arr 2 10 ((rs.map GRule.row).map ofDs))])
theorem edges_okT (A : AE E) (H : HE E) {P : GVal → Prop} (cm : lcall E 169 [.agg [.d (.l 3 (g.toks.map GTok.row)), .d (.l 3 (g.nts.map GNt.row)), .d (.l 3 ((g.prods.map GProd.row).set k [.i .i64 p.left, .l 2 (p.right.map GSym.row), .l 10 (rs.map GRule.row)]))]] [] = some (.d (.b true), []))
  (hk : k < g.prods.length) (hk10 : g.prods.length ≤ 10) (hr : ∀ r ∈ rs, AllV P r.e ∧ (refsF r.e).length ≤ 100) (hl : rs.length ≤ 100) :
  ∃ x, lcall E 172 [.agg [.d (.l 3 (g.toks.map GTok.row)), .d (.l 3 (g.nts.map GNt.row)), .arr 0 1 0 g.prods.length], .d (.i .i64 k)] [some (.arr 1 3 (((g.prods.map GProd.row).map ofDs).set k [.d (.i .i64 p.left), .d (.l 2 (p.right.map GSym.row)), .arr 1 2 0 rs.length])), some (.arr 2 10 ((rs.map GRule.row).map ofDs))] = some x ∧ EdT g k p rs x := by
 have g0 : ¬ (k : Int) < 0 := by omega
 have g1 : ¬ (k : Int) ≥ (g.prods.length : Int) := by omega
 have z0 : (0 : Int) ≤ (k : Int) := by omega
 have kk : (k : Int) < g.prods.length := by omega
 have hkX : k < ((g.prods.map GProd.row).map ofDs).length := by simp; omega
 have ga : (((g.prods.map GProd.row).map ofDs).set k [.d (.i .i64 p.left), .d (.l 2 (p.right.map GSym.row)), .arr 1 2 0 rs.length])[k]? = some [.d (.i .i64 p.left), .d (.l 2 (p.right.map GSym.row)), .arr 1 2 0 rs.length] := List.getElem?_set_self hkX
 have hX : ∀ x ∈ g.prods.map GProd.row, x.length ≤ 20 := fun x hx => by obtain ⟨q, _, rfl⟩ := List.mem_map.1 hx; simp [GProd.row]
 have hY : ∀ x ∈ rs.map GRule.row, x.length ≤ 20 := fun x hx => by obtain ⟨q, _, rfl⟩ := List.mem_map.1 hx; simp [GRule.row]
 have lg1 : lendArgs (objT [some (.arr 1 3 (((g.prods.map GProd.row).map ofDs).set k [.d (.i .i64 p.left), .d (.l 2 (p.right.map GSym.row)), .arr 1 2 0 rs.length])), some (.arr 2 10 ((rs.map GRule.row).map ofDs))]) [.agg [.d (.l 3 (g.toks.map GTok.row)), .d (.l 3 (g.nts.map GNt.row)), .arr 0 1 0 g.prods.length]] = some [.agg [.d (.l 3 (g.toks.map GTok.row)), .d (.l 3 (g.nts.map GNt.row)), .d (.l 3 ((g.prods.map GProd.row).set k [.i .i64 p.left, .l 2 (p.right.map GSym.row), .l 10 (rs.map GRule.row)]))]] :=
  lend_g rfl rfl (by simp) (by simp) (by simp; omega) (by simp; omega) hX hY
 have rs1 := fun r => refs_set r (g.prods.map GProd.row) k (by simpa using hk)
 have rn1 := fun f sh r => ren_set f sh r (g.prods.map GProd.row) k
 refine call_qP H.e172 ?_
 simp only [evAll, Nat.reduceBEq, ↓reduceIte, Nat.reduceEqDiff, Nat.reduceAdd, Nat.reduceLeDiff, Nat.reduceSub, Nat.reduceLT, reduceCtorEq, Int.reduceEq, Int.reduceLT, Int.reduceLE, Int.reduceNeg, loopQ, Int.reduceToNat, Nat.reduceMul, List.range'_one, c172, evLd, cm, g0, g1, ga, lg1, rs1, rn1, refsRows_ofDs, renRows_ofDs, eq_true z0, eq_true kk, and_self]
 have h1 : ([] : List (List D)) = ([] : List Edge).map edgeRow := rfl
 rw [h1]
 refine ed_outT A H (g := g) (k := k) (p := p) (rs := rs) hr (by omega) rs.length 0 [] (by omega) (by simp) (fun tm k1 => ?_)
 rw [List.drop_zero, List.nil_append] at k1
 simp only [evAll, Nat.reduceBEq, ↓reduceIte, Nat.reduceEqDiff, Nat.reduceAdd, Nat.reduceLeDiff, Nat.reduceSub, Nat.reduceLT, reduceCtorEq, Int.reduceEq, Int.reduceLT, Int.reduceLE, Int.reduceNeg, loopQ, Int.reduceToNat, Nat.reduceMul, List.range'_one, k1, rs1, rn1, refsRows_ofDs, renRows_ofDs]
 exact rfl
abbrev gSetT (g : Gram) (k : Nat) (p : GProd) (rl : List GRule) : Gram := ⟨g.toks, g.nts, g.prods.set k ⟨p.left, p.right, rl⟩⟩
theorem rules_perm {mv : GVal → Bool} {g : Gram} {p : GProd} : ∀ (rs : List GRule) (l : List (Int × Int)), (∀ r ∈ rs, rGood mv g p r) → (rs.map GRule.at_).Perm l → rulesF mv g p rs l = (true, [])
 | [], l, _, h => by
  have : l = [] := by simpa using h.symm
  rw [this]; rfl
 | r :: rs, l, hg, h => by
  obtain ⟨h1, h2, h3⟩ := hg r List.mem_cons_self
  have hm : r.at_ ∈ l := h.mem_iff.1 List.mem_cons_self
  have ha : ruleAll mv g p l r = true := by
   have : ((refsF r.e).any fun x => !inF g p x) = false := by
    rw [List.any_eq_false]
    intro x hx
    simp [h3 x hx]
   simp only [ruleAll, ruleB, decide_eq_true hm, h1, h2, this]; rfl
  have hp : (rs.map GRule.at_).Perm (l.erase r.at_) := (List.cons_perm_iff_perm_erase.1 h).2
  rw [rulesF, if_pos ha]
  exact rules_perm rs _ (fun r' hr' => hg r' (List.mem_cons_of_mem _ hr')) hp
theorem rGood_same {mv : GVal → Bool} {ts : List GTok} {ns : List GNt} {ps : List GProd} (ps' : List GProd) {left : Int} {ss : List GSym} {rs : List GRule} (rs' : List GRule) {r : GRule} (h : rGood mv ⟨ts, ns, ps⟩ ⟨left, ss, rs⟩ r) (ht : textsF ⟨left, ss, rs'⟩ r.e = true) : rGood mv ⟨ts, ns, ps'⟩ ⟨left, ss, rs'⟩ r := ⟨h.1, ht, h.2.2⟩
theorem MadeG.ruleT {g : Gram} (h : MadeG g) {p : GProd} (hp : p ∈ g.prods) (ps : List GProd) (rl : List GRule) {r : GRule} (hr : r ∈ p.rules) : rGood mt ⟨g.toks, g.nts, ps⟩ ⟨p.left, p.right, rl⟩ r := by
 obtain ⟨k, hk, hb⟩ := (h.prods p hp).made r hr
 have hb' : Built ⟨g.toks, g.nts, ps⟩ ⟨p.left, p.right, rl⟩ k r.e := hb.same ps rl
 have f := hb'.fine (h.prods p hp).right (nts_count h.nts g.toks ps)
 exact ⟨f.may 12 (by omega), f.text, f.refs⟩
theorem MadeG.amayT {g : Gram} (h : MadeG g) {k : Nat} (hk : k < g.prods.length) {p : GProd} (hp : g.prods[k] = p) {rl : List GRule} (hr : rl.Perm p.rules) : amayF mt (gSetT g k p rl) = true := by
 have hpm : p ∈ g.prods := hp ▸ List.getElem_mem hk
 have hw : wantsF (gSetT g k p rl) ⟨p.left, p.right, rl⟩ = p.rules.map GRule.at_ := by
  rw [h.wants hpm]; exact wants_same ..
 have hnew : prodF mt (gSetT g k p rl) ⟨p.left, p.right, rl⟩ = true := by
  have := rules_perm (mv := mt) (g := gSetT g k p rl) (p := ⟨p.left, p.right, rl⟩) rl (p.rules.map GRule.at_) (fun r hr' => h.ruleT hpm _ _ (hr.mem_iff.1 hr')) (hr.map _)
  unfold prodF
  simp only [hw, this]; rfl
 have hold : ∀ q ∈ g.prods, prodF mt (gSetT g k p rl) q = true := fun q hq => by
  have e := rules_all (mv := mt) (g := gSetT g k p rl) (p := q) q.rules (fun r hr => h.ruleT hq _ _ hr)
  have hq' : q.rules.map GRule.at_ = wantsF (gSetT g k p rl) q := by rw [h.wants hq]; exact wants_same ..
  unfold prodF
  rw [← hq', e]; rfl
 have hall : ((gSetT g k p rl).prods.any fun q => !prodF mt (gSetT g k p rl) q) = false := by
  rw [List.any_eq_false]
  intro q hq
  rcases List.mem_or_eq_of_mem_set hq with hq | rfl
  ·simp [hold q hq]
  ·simp [hnew]
 have hs : startF (gSetT g k p rl) = true := by
  have := h.amay
  simp only [amayF, Bool.and_eq_true] at this
  exact this.2.1
 have hgm : gmayF (gSetT g k p rl) = true := by
  have h0 := h.gmay
  simp only [gmayF, Bool.and_eq_true] at h0 ⊢
  obtain ⟨a, b, c, d, e, f⟩ := h0
  refine ⟨a, b, ?_, d, e, ?_⟩
  ·simpa only [gSetT, List.length_set] using c
  ·simp only [Bool.not_eq_true', List.any_eq_false] at f ⊢
   intro q hq
   rcases List.mem_or_eq_of_mem_set hq with hq | rfl
   ·exact f q hq
   ·exact f p hpm
 simp only [amayF, hgm, hs, hall]; rfl
theorem turn_perm (l : List GRule) (n : Nat) : (l.drop n ++ l.take n).Perm l := by
 have := List.perm_append_comm (l₁ := l.drop n) (l₂ := l.take n)
 rwa [List.take_append_drop] at this
theorem edges_perm {a b : List GRule} (h : a.Perm b) : (rulesEdges a).Perm (rulesEdges b) := h.flatMap_right _
def c163 : CFn := ⟨.seq (.region false [
oo 6 (.mv (.k (.d (.b false))))]) (
.seq (.seq (.region false [
oo 17 (.call 171 [] 0 true),
oo 18 (.un .not (.t 17))]) (
.cond (.t 18) (
.seq (.region false [
oo 6 (.mv (.k (.d (.b false))))]) (
.ret)) (.skip))) (
.seq (.seq (.region false [
oo 19 (.mv (.t 0)),
oo 20 (.len 0 (.t 19)),
oo 21 (.bin .gtr (.t 20) (.k (.d (.i .i64 200))))]) (
.cond (.t 21) (
.seq (.region false [
oo 6 (.mv (.k (.d (.b true))))]) (
.ret)) (.skip))) (
.seq (.region false [
oo 22 (.mv (.t 0)),
oo 23 (.call 108 [.t 22] 4 true),
oo 24 (.call 168 [.t 23] 4 true),
oo 7 (.zero (.agg [(.nil 3), (.nil 3), (.nil 3)])),
⟨none, .st 3 (.t 7) (.t 24), none, 0⟩]) (
.seq (.region false [
oo 25 (.mv (.t 1)),
oo 26 (.conv .i64 (.t 25)),
oo 27 (.fa 2 (.t 7)),
oo 28 (.ld false 1 (.t 27)),
oo 29 (.len 0 (.t 28)),
oo 30 (.bin .rem (.t 26) (.t 29)),
oo 8 (.mv (.t 30))]) (
.seq (.region false [
oo 31 (.fa 2 (.t 7)),
oo 32 (.ld false 1 (.t 31)),
oo 33 (.mv (.t 8)),
oo 34 (.ia 3 (.t 32) (.t 33)),
oo 35 (.fa 2 (.t 34)),
oo 36 (.ld false 1 (.t 35)),
oo 9 (.mv (.t 36))]) (
.seq (.seq (.region false [
oo 37 (.mv (.t 9)),
oo 38 (.len 0 (.t 37)),
oo 39 (.bin .eql (.t 38) (.k (.d (.i .i64 0))))]) (
.cond (.t 39) (
.seq (.region false [
oo 40 (.ld true 3 (.t 7)),
oo 41 (.mv (.t 8)),
oo 42 (.call 172 [.t 40, .t 41] 4 false),
oo 43 (.len 0 (.t 42)),
oo 44 (.bin .eql (.t 43) (.k (.d (.i .i64 0)))),
oo 6 (.mv (.t 44))]) (
.ret)) (.skip))) (
.seq (.region false [
oo 45 (.mv (.t 2)),
oo 46 (.conv .i64 (.t 45)),
oo 47 (.mv (.t 9)),
oo 48 (.len 0 (.t 47)),
oo 49 (.bin .rem (.t 46) (.t 48)),
oo 10 (.mv (.t 49))]) (
.seq (.region false [
oo 50 (.ld true 3 (.t 7)),
oo 11 (.zero (.agg [(.nil 3), (.nil 3), (.nil 3)])),
⟨none, .st 3 (.t 11) (.t 50), none, 0⟩]) (
.seq (.region false [
oo 51 (.bsa 3 0 [(.i .i64 0), (.l 2 []), (.l 10 [])] []),
oo 52 (.fa 2 (.t 7)),
oo 53 (.ld false 1 (.t 52)),
oo 54 (.apa 3 56 (.t 51) (.t 53)),
oo 55 (.fa 2 (.t 11)),
⟨none, .st 1 (.t 55) (.t 54), none, 0⟩]) (
.seq (.region true [
oo 56 (.fa 2 (.t 11)),
⟨some 57, .ld false 1 (.t 56), none, 1⟩,
oo 58 (.mv (.t 8)),
oo 59 (.bsa 10 0 [(.i .i64 0), (.i .i64 0), (.i .i64 0), (.i .i64 0), (.i .i64 0), (.s []), (.l 4 []), (.i .i64 0), (.i .i64 0), (.l 8 [])] []),
oo 60 (.mv (.t 9)),
oo 61 (.mv (.t 10)),
⟨some 62, .slc 10 (.t 60) (some (.t 61)) none, none, 48⟩,
⟨some 63, .apa 10 120 (.t 59) (.t 62), none, 120⟩,
oo 64 (.mv (.t 9)),
oo 65 (.mv (.t 10)),
⟨some 66, .slc 10 (.t 64) none (some (.t 65)), none, 768⟩,
⟨some 67, .apa 10 120 (.t 63) (.t 66), none, 2040⟩,
⟨some 68, .ia 3 (.t 57) (.t 58), none, 4095⟩,
⟨some 69, .fa 2 (.t 68), none, 8191⟩,
⟨none, .st 1 (.t 69) (.t 67), none, 16383⟩]) (
.seq (.region true [
oo 70 (.ld true 3 (.t 7)),
oo 71 (.mv (.t 8)),
⟨some 72, .call 172 [.t 70, .t 71] 4 false, none, 3⟩,
oo 73 (.ld true 3 (.t 11)),
oo 74 (.mv (.t 8)),
⟨some 75, .call 172 [.t 73, .t 74] 4 false, none, 31⟩,
⟨some 12, .mv (.t 72), none, 63⟩,
⟨some 13, .mv (.t 75), none, 127⟩]) (
.seq (.seq (.region false [
oo 76 (.mv (.t 12)),
oo 77 (.len 0 (.t 76)),
oo 78 (.mv (.t 13)),
oo 79 (.len 0 (.t 78)),
oo 80 (.bin .neq (.t 77) (.t 79))]) (
.cond (.t 80) (
.seq (.region false [
oo 6 (.mv (.k (.d (.b false))))]) (
.ret)) (.skip))) (
.seq (.seq (.region false [
oo 14 (.mv (.k (.d (.i .i64 0))))]) (
.block 0 (.loop ⟨[12, 13, 14], [], [], [], [], true⟩ (.seq (.seq (.region false [
oo 81 (.mv (.t 14)),
oo 82 (.mv (.t 12)),
oo 83 (.len 0 (.t 82)),
oo 84 (.bin .lss (.t 81) (.t 83))]) (
.cond (.t 84) (
.skip) (.exit 0))) (
.seq (.block 1 (.seq (.region false [
oo 15 (.mv (.k (.d (.b false))))]) (
.seq (.seq (.region false [
oo 16 (.mv (.k (.d (.i .i64 0))))]) (
.block 2 (.loop ⟨[12, 13, 14, 15, 16], [], [], [], [], true⟩ (.seq (.seq (.region false [
oo 87 (.mv (.t 16)),
oo 88 (.mv (.t 13)),
oo 89 (.len 0 (.t 88)),
oo 90 (.bin .lss (.t 87) (.t 89))]) (
.cond (.t 90) (
.skip) (.exit 2))) (
.seq (.block 3 (.region true [
oo 93 (.mv (.t 15)),
⟨some 94, .mv (.t 93), none, 1⟩,
⟨some 95, .mv (.t 12), (some (94, false)), 3⟩,
⟨some 96, .mv (.t 14), (some (94, false)), 3⟩,
⟨some 97, .ia 4 (.t 95) (.t 96), (some (94, false)), 15⟩,
⟨some 98, .ld true 4 (.t 97), (some (94, false)), 31⟩,
⟨some 99, .mv (.t 13), (some (94, false)), 3⟩,
⟨some 100, .mv (.t 16), (some (94, false)), 3⟩,
⟨some 101, .ia 4 (.t 99) (.t 100), (some (94, false)), 195⟩,
⟨some 102, .ld true 4 (.t 101), (some (94, false)), 451⟩,
⟨some 103, .eqa [.i, .i, .i, .i] false (.t 98) (.t 102), (some (94, false)), 1023⟩,
⟨some 104, .pick (.t 94) (.k (.d (.b true))) (.t 103), none, 2047⟩,
⟨some 15, .mv (.t 104), none, 4095⟩])) (
.region false [
oo 91 (.mv (.t 16)),
oo 92 (.bin .add (.t 91) (.k (.d (.i .i64 1)))),
oo 16 (.mv (.t 92))])))))) (
.seq (.region false [
oo 105 (.mv (.t 15)),
oo 106 (.un .not (.t 105))]) (
.cond (.t 106) (
.seq (.region false [
oo 6 (.mv (.k (.d (.b false))))]) (
.ret)) (.skip)))))) (
.region false [
oo 85 (.mv (.t 14)),
oo 86 (.bin .add (.t 85) (.k (.d (.i .i64 1)))),
oo 14 (.mv (.t 86))])))))) (
.seq (.region false [
oo 6 (.mv (.k (.d (.b true))))]) (
.ret))))))))))))))), [.slot 6]⟩
def n163 : Notes := { anns := [⟨[12, 13, 14], [], [], [], [], true⟩, ⟨[12, 13, 14, 15, 16], [], [], [], [], true⟩], frz := [0, 0, 0, 0, 0, 0, 0, 0, 0, 0, 0, 0, 0, 0, 0, 0, 0, 0, 0, 0, 0, 0, 0, 0, 0, 0, 0, 0, 0, 0, 0, 0, 1, 0, 0, 0, 0, 0, 0, 0, 0, 0, 0, 0, 0, 1, 0, 0, 1, 0, 0, 0, 0, 0, 1, 0, 0, 0, 1, 0, 0, 0, 1, 0, 0, 0, 0, 0, 1, 0, 0, 1], rgs := [] }
theorem stA_prodT {g : Gram} {k : Nat} {p : GProd} (hk : k < g.prods.length) (hp : g.prods[k] = p) (id j v m : Nat) (hp' : List (Option Obj)) : stA 1 id 1 k 2 hp' (some [.arr j v 0 m]) (some (.arr 1 3 ((g.prods.map GProd.row).map ofDs))) = some (hp'.set id (some (.arr 1 3 (((g.prods.map GProd.row).map ofDs).set k [.d (.i .i64 p.left), .d (.l 2 (p.right.map GSym.row)), .arr j v 0 m])))) := by
 have e1 : ((g.prods.map GProd.row).map ofDs)[k]? = some (ofDs p.row) := by
  simp only [List.getElem?_map, List.getElem?_eq_getElem hk, hp, Option.map_some]
 have e2 : over (ofDs p.row) 2 [.arr j v 0 m] = some [.d (.i .i64 p.left), .d (.l 2 (p.right.map GSym.row)), .arr j v 0 m] := rfl
 unfold stA
 simp only [if_true, e1, e2]
 rfl
theorem amay_turn (A : AE E) {g : Gram} (hg : MadeG g) {k : Nat} (hk : k < g.prods.length) {p : GProd} (hp : g.prods[k] = p) {rl : List GRule} (hr : rl.Perm p.rules) :
  lcall E 169 [.agg [.d (.l 3 (g.toks.map GTok.row)), .d (.l 3 (g.nts.map GNt.row)), .d (.l 3 ((g.prods.map GProd.row).set k [.i .i64 p.left, .l 2 (p.right.map GSym.row), .l 10 (rl.map GRule.row)]))]] [] = some (.d (.b true), []) := by
 have hpm : p ∈ g.prods := hp ▸ List.getElem_mem hk
 have hlen := hr.length_eq
 have hfew := (hg.prods p hpm).few
 have hgood : ∀ q ∈ (gSetT g k p rl).prods, q.Good isNum := fun q hq => by
  rcases List.mem_or_eq_of_mem_set hq with hq | rfl
  ·exact hg.good hq
  ·exact ⟨⟨by have := (hg.prods p hpm).right; simp only; omega, by simp only; omega⟩, fun r h => (hg.good hpm).rules r (hr.mem_iff.1 h)⟩
 have hok : (gSetT g k p rl).Ok := ⟨hg.ok.toks, hg.ok.nts, by have := hg.ok.prods; simp only [gSetT, List.length_set]; omega, hg.ok.nt, fun q hq => (hgood q hq).ok⟩
 have c := amay_ok A (mv := mt) (P := isNum) (fun v hv => may_num A hv) hok hgood
 rw [hg.amayT hk hp hr] at c
 have e : (g.prods.map GProd.row).set k [.i .i64 p.left, .l 2 (p.right.map GSym.row), .l 10 (rl.map GRule.row)] = (g.prods.set k ⟨p.left, p.right, rl⟩).map GProd.row := by rw [List.map_set]; rfl
 rw [e]
 exact c
def tuL0 : CCode := match c163.body with
 | .seq _ (.seq _ (.seq _ (.seq _ (.seq _ (.seq _ (.seq _ (.seq _ (.seq _ (.seq _ (.seq _ (.seq _ (.seq _ (.seq (.seq _ (.block _ (.loop _ c))) _))))))))))))) => c
 | _ => .skip
def tuL2 : CCode := match tuL0 with
 | .seq _ (.seq (.block _ (.seq _ (.seq (.seq _ (.block _ (.loop _ c))) _))) _) => c
 | _ => .skip
abbrev hpU (l : List UInt8) (n' : Nat) (g : Gram) (k : Nat) (p : GProd) (rl : List GRule) : List (Option Obj) := [pk l n', none, none, none, none, none, none, none, bxG g,
 some (.box [.d (.l 3 (g.toks.map GTok.row)), .d (.l 3 (g.nts.map GNt.row)), .arr 10 1 0 g.prods.length]),
 some (.arr 1 3 (((g.prods.map GProd.row).map ofDs).set k [.d (.i .i64 p.left), .d (.l 2 (p.right.map GSym.row)), .arr 12 2 0 rl.length])), none, some (.arr 2 10 ((rl.map GRule.row).map ofDs)), none, none, none, none, none, none, none, none, none, none]
section
variable {l : List UInt8} {n' : Nat} {g : Gram} {k : Nat} {p : GProd} {rl : List GRule}
theorem usU (n : Nat) (h : 12 < n) : underRows n (((g.prods.map GProd.row).map ofDs).set k [.d (.i .i64 p.left), .d (.l 2 (p.right.map GSym.row)), .arr 12 2 0 rl.length]) = true := und_set n _ (by show (decide (12 < n) && true) = true; rw [decide_eq_true h]; rfl) _ _
theorem tu2 {es bs : List Edge} {x : Edge} {i : Nat} (hb : bs.length ≤ 100000) (gi : (es.map edgeRow)[i]? = some [.i .i64 x.1.1, .i .i64 x.1.2, .i .i64 x.2.1, .i .i64 x.2.2]) {Q : Ex → St → Prop}
  (hQ : ∀ tm, look tm 12 = .d (.l 4 (es.map edgeRow)) → look tm 13 = .d (.l 4 (bs.map edgeRow)) → look tm 14 = .d (.i .i64 i) → look tm 15 = .d (.b true) → Q (.exit 2) ⟨tm, hpU l n' g k p rl⟩) :
  ∀ (m j : Nat) (t : Bool), j + m = bs.length → (t || (bs.drop j).any fun y => decide (x = y)) = true →
  LX E tuL2 ⟨[12, 13, 14, 15, 16], [], [], [], [], true⟩ 23 ⟨[(12, .d (.l 4 (es.map edgeRow))), (13, .d (.l 4 (bs.map edgeRow))), (14, .d (.i .i64 i)), (15, .d (.b t)), (16, .d (.i .i64 j))], hpU l n' g k p rl⟩ Q := by
 intro m
 induction m with
 | zero =>
  intro j t hj ht
  have hn : ¬ ((j : Int) < (bs.length : Int)) := by omega
  rw [List.drop_eq_nil_of_le (by omega)] at ht
  simp only [List.any_nil, Bool.or_false] at ht
  rw [ht]
  refine lx_step ?_
  simp only [evAll, Nat.reduceBEq, ↓reduceIte, Nat.reduceEqDiff, Nat.reduceAdd, Nat.reduceLeDiff, Nat.reduceSub, Nat.reduceLT, reduceCtorEq, Int.reduceEq, Int.reduceLT, Int.reduceLE, Int.reduceNeg, loopQ, Int.reduceToNat, Nat.reduceMul, List.range'_one, tuL2, tuL0, c163, hn, List.length_map]
  exact hQ _ rfl rfl rfl rfl
 | succ m ih =>
  intro j t hj ht
  have hy : (j : Int) < (bs.length : Int) := by omega
  have lj : j < bs.length := by omega
  have j0 : (0 : Int) ≤ j := by omega
  have i0 : (0 : Int) ≤ i := by omega
  have w : IntKind.i64.wrap ((j : Int) + 1) = ((j + 1 : Nat) : Int) := by rw [i64w (by omega) (by omega)]; omega
  have gj : (bs.map edgeRow)[j]? = some [.i .i64 (bs[j]).1.1, .i .i64 (bs[j]).1.2, .i .i64 (bs[j]).2.1, .i .i64 (bs[j]).2.2] := by rw [List.getElem?_map, List.getElem?_eq_getElem lj]; rfl
  rw [List.drop_eq_getElem_cons lj, List.any_cons, ← Bool.or_assoc] at ht
  have q := eqDs_E x bs[j]
  generalize bs[j] = y at *
  have us := usU (g := g) (k := k) (p := p) (rl := rl) 23 (by omega)
  have ih' := ih (j + 1) (t || decide (x = y)) (by omega) ht
  have un : ∀ (h : List (Option Obj)), (h[12]?).join = some (.arr 2 10 ((rl.map GRule.row).map ofDs)) → (((g.prods.map GProd.row).map ofDs).set k [.d (.i .i64 p.left), .d (.l 2 (p.right.map GSym.row)), .arr 12 2 0 rl.length]).map (fun r => r.map (normC h)) = ((g.prods.map GProd.row).map ofDs).set k [.d (.i .i64 p.left), .d (.l 2 (p.right.map GSym.row)), .arr 12 2 0 rl.length] := fun h hh => nrm_set _ _ (by simp only [List.map_cons, List.map_nil, normC, hh, if_true]; rfl) _ _
  refine lx_step ?_
  cases t
  ·simp only [evAll, Nat.reduceBEq, ↓reduceIte, Nat.reduceEqDiff, Nat.reduceAdd, Nat.reduceLeDiff, Nat.reduceSub, Nat.reduceLT, reduceCtorEq, Int.reduceEq, Int.reduceLT, Int.reduceLE, Int.reduceNeg, loopQ, Int.reduceToNat, Nat.reduceMul, List.range'_one, tuL2, tuL0, c163, eq_true hy, gi, gj, q, eq_true i0, eq_true j0, w, us, und_ofDs, nrm_ofDs, List.length_map]
   refine ⟨by rfl, _, rfl, ?_⟩
   rw [un _ rfl]
   rw [Bool.false_or] at ih'
   exact ih'
  ·simp only [evAll, Nat.reduceBEq, ↓reduceIte, Nat.reduceEqDiff, Nat.reduceAdd, Nat.reduceLeDiff, Nat.reduceSub, Nat.reduceLT, reduceCtorEq, Int.reduceEq, Int.reduceLT, Int.reduceLE, Int.reduceNeg, loopQ, Int.reduceToNat, Nat.reduceMul, List.range'_one, tuL2, tuL0, c163, eq_true hy, gi, gj, eq_true i0, eq_true j0, w, us, und_ofDs, nrm_ofDs, List.length_map]
   refine ⟨by rfl, _, rfl, ?_⟩
   rw [un _ rfl]
   rw [Bool.true_or] at ih'
   exact ih'
theorem tu0 {es bs : List Edge} (hb : bs.length ≤ 100000) (he : es.length ≤ 100000) (hs : ∀ x ∈ es, x ∈ bs) {Q : Ex → St → Prop} (hQ : ∀ tm hp, Q (.exit 0) ⟨tm, hp⟩) :
  ∀ (m i : Nat), i + m = es.length →
  LX E tuL0 ⟨[12, 13, 14], [], [], [], [], true⟩ 23 ⟨[(12, .d (.l 4 (es.map edgeRow))), (13, .d (.l 4 (bs.map edgeRow))), (14, .d (.i .i64 i))], hpU l n' g k p rl⟩ Q := by
 intro m
 induction m with
 | zero =>
  intro i hi
  have hn : ¬ ((i : Int) < (es.length : Int)) := by omega
  refine lx_step ?_
  simp only [evAll, Nat.reduceBEq, ↓reduceIte, Nat.reduceEqDiff, Nat.reduceAdd, Nat.reduceLeDiff, Nat.reduceSub, Nat.reduceLT, reduceCtorEq, Int.reduceEq, Int.reduceLT, Int.reduceLE, Int.reduceNeg, loopQ, Int.reduceToNat, Nat.reduceMul, List.range'_one, tuL0, c163, hn, List.length_map]
  exact hQ _ _
 | succ m ih =>
  intro i hi
  have hy : (i : Int) < (es.length : Int) := by omega
  have li : i < es.length := by omega
  have w : IntKind.i64.wrap ((i : Int) + 1) = ((i + 1 : Nat) : Int) := by rw [i64w (by omega) (by omega)]; omega
  have gi : (es.map edgeRow)[i]? = some [.i .i64 (es[i]).1.1, .i .i64 (es[i]).1.2, .i .i64 (es[i]).2.1, .i .i64 (es[i]).2.2] := by rw [List.getElem?_map, List.getElem?_eq_getElem li]; rfl
  have hm := hs _ (List.getElem_mem li)
  generalize es[i] = x at *
  have us := usU (g := g) (k := k) (p := p) (rl := rl) 23 (by omega)
  have un : ∀ (h : List (Option Obj)), (h[12]?).join = some (.arr 2 10 ((rl.map GRule.row).map ofDs)) → (((g.prods.map GProd.row).map ofDs).set k [.d (.i .i64 p.left), .d (.l 2 (p.right.map GSym.row)), .arr 12 2 0 rl.length]).map (fun r => r.map (normC h)) = ((g.prods.map GProd.row).map ofDs).set k [.d (.i .i64 p.left), .d (.l 2 (p.right.map GSym.row)), .arr 12 2 0 rl.length] := fun h hh => nrm_set _ _ (by simp only [List.map_cons, List.map_nil, normC, hh, if_true]; rfl) _ _
  have st := tu2 (E := E) (l := l) (n' := n') (g := g) (k := k) (p := p) (rl := rl) (es := es) (bs := bs) (x := x) (i := i) hb gi
   (Q := blockQ 2 (seqQ E (.seq (.region false [⟨some 105, .mv (.t 15), none, 0⟩, ⟨some 106, .un .not (.t 105), none, 0⟩]) (.cond (.t 106) (.seq (.region false [⟨some 6, .mv (.k (.d (.b false))), none, 0⟩]) .ret) .skip))
    (blockQ 1 (seqQ E (.region false [⟨some 85, .mv (.t 14), none, 0⟩, ⟨some 86, .bin .add (.t 85) (.k (.d (.i .i64 1))), none, 0⟩, ⟨some 14, .mv (.t 86), none, 0⟩]) (loopQ E tuL0 ⟨[12, 13, 14], [], [], [], [], true⟩ 23 Q)))))
   (fun tm k12 k13 k14 k15 => ?_) bs.length 0 false (by omega) (by rw [Bool.false_or, List.drop_zero, List.any_eq_true]; exact ⟨x, hm, by simp⟩)
  ·refine lx_step ?_
   simp only [evAll, Nat.reduceBEq, ↓reduceIte, Nat.reduceEqDiff, Nat.reduceAdd, Nat.reduceLeDiff, Nat.reduceSub, Nat.reduceLT, reduceCtorEq, Int.reduceEq, Int.reduceLT, Int.reduceLE, Int.reduceNeg, loopQ, Int.reduceToNat, Nat.reduceMul, List.range'_one, tuL0, c163, eq_true hy, List.length_map]
   exact st
  ·simp only [evAll, Nat.reduceBEq, ↓reduceIte, Nat.reduceEqDiff, Nat.reduceAdd, Nat.reduceLeDiff, Nat.reduceSub, Nat.reduceLT, reduceCtorEq, Int.reduceEq, Int.reduceLT, Int.reduceLE, Int.reduceNeg, loopQ, Int.reduceToNat, Nat.reduceMul, List.range'_one, k12, k13, k14, k15, w, us, und_ofDs, nrm_ofDs]
   refine ⟨_, rfl, ?_⟩
   rw [un _ rfl]
   exact ih (i + 1) (by omega)
end
theorem turn_a (A : AE E) (B : PE E) (H : HE E) (e163 : E 163 = some (.code c163)) (hb : lcall E 171 [] [] = some (.d (.b true), [])) (l : List UInt8) (which by_ : Nat) (hw : which < 256) (ha : by_ < 256) :
  lcall E 163 [.d (.l 1 (byteRow l)), .d (.i .u8 which), .d (.i .u8 by_)] [] = some (.d (.b true), []) := by
 have hbl := byteRow_length l
 refine call_q e163 ?_
 by_cases h200 : (l.length : Int) > 200
 ·simp only [evAll, Nat.reduceBEq, ↓reduceIte, Nat.reduceEqDiff, Nat.reduceAdd, Nat.reduceLeDiff, Nat.reduceSub, Nat.reduceLT, reduceCtorEq, Int.reduceEq, Int.reduceLT, Int.reduceLE, Int.reduceNeg, loopQ, Int.reduceToNat, Nat.reduceMul, List.range'_one, c163, hb, hbl, eq_true h200]
 have c1 := made_ok B l
 obtain ⟨x, c2, n', g, hn', hg, rfl⟩ := gram_made B (l := l) (by omega) (Nat.zero_le _)
 have c2' : lcall E 168 [.ptr 0 0] [some (.box [.d (.l 1 (byteRow l)), .d (.i .i64 0)])] = some (g.arg, [pk l n']) := c2
 have w1 : IntKind.i64.wrap (which : Int) = which := i64w (by omega) (by omega)
 have w2 : IntKind.i64.wrap (by_ : Int) = by_ := i64w (by omega) (by omega)
 have p0 := hg.p0
 have p1 := hg.p1
 have nz : ¬ (g.prods.length : Int) = 0 := by omega
 have nz' : (g.prods.length : Int) ≠ 0 := nz
 obtain ⟨k, hk, hk2⟩ : ∃ k : Nat, Int.tmod (which : Int) (g.prods.length : Int) = (k : Int) ∧ k < g.prods.length := by
  have h2 := Int.tmod_lt_of_pos (which : Int) (b := (g.prods.length : Int)) (by omega)
  have h3 := Int.tmod_nonneg (g.prods.length : Int) (a := (which : Int)) (by omega)
  exact ⟨(Int.tmod (which : Int) (g.prods.length : Int)).toNat, by omega, by omega⟩
 have ga : (g.prods.map GProd.row)[k]? = some [.i .i64 (g.prods[k]).left, .l 2 ((g.prods[k]).right.map GSym.row), .l 10 ((g.prods[k]).rules.map GRule.row)] := by rw [List.getElem?_map, List.getElem?_eq_getElem hk2]; rfl
 have zk : (0 : Int) ≤ k := by omega
 have hp := List.getElem_mem hk2
 have cm := amay_ok A (mv := mt) (P := isNum) (fun v hv => may_num A hv) hg.ok (fun p hp => hg.good hp)
 rw [hg.amay] at cm
 have ce := edges_ok A H (P := isNum) hg.ok cm hk2 (fun r hr => ⟨(hg.rule hp hr).all, by have := (hg.rule hp hr).few; omega⟩)
 have hpp : g.prods[k] = g.prods[k] := rfl
 generalize hpq : g.prods[k] = p at *
 by_cases hr : (p.rules.length : Int) = 0
 ·have e0 : p.rules = [] := List.eq_nil_of_length_eq_zero (by omega)
  rw [e0] at ce
  simp only [rulesEdges, List.flatMap_nil, List.map_nil] at ce
  simp only [evAll, Nat.reduceBEq, ↓reduceIte, Nat.reduceEqDiff, Nat.reduceAdd, Nat.reduceLeDiff, Nat.reduceSub, Nat.reduceLT, reduceCtorEq, Int.reduceEq, Int.reduceLT, Int.reduceLE, Int.reduceNeg, loopQ, Int.reduceToNat, Nat.reduceMul, List.range'_one, c163, hb, hbl, h200, c1, c2', w1, w2, nz, nz', List.length_map, hk, ga, eq_true zk, eq_true hr, ce, List.length_nil]
 ·obtain ⟨n, hn, hn2⟩ : ∃ n : Nat, Int.tmod (by_ : Int) (p.rules.length : Int) = (n : Int) ∧ n < p.rules.length := by
   have h2 := Int.tmod_lt_of_pos (by_ : Int) (b := (p.rules.length : Int)) (by omega)
   have h3 := Int.tmod_nonneg (p.rules.length : Int) (a := (by_ : Int)) (by omega)
   exact ⟨(Int.tmod (by_ : Int) (p.rules.length : Int)).toNat, by omega, by omega⟩
  have rp : roomy g.prods.length 56 = true := by unfold roomy; exact decide_eq_true (by omega)
  have hf := (hg.prods p hp).few
  have zn : (0 : Int) ≤ n := by omega
  have ln : (n : Int) ≤ p.rules.length := by omega
  have tkl : (p.rules.map GRule.row).take p.rules.length = p.rules.map GRule.row := List.take_of_length_le (by simp)
  have L1 : ((p.rules.map GRule.row).take n).length = n := by simp; omega
  have L3 : ((p.rules.map GRule.row).drop n).length = p.rules.length - n := by simp
  have tkk : ((p.rules.map GRule.row).drop n |>.map ofDs).take (p.rules.length - n) = ((p.rules.map GRule.row).drop n).map ofDs := List.take_of_length_le (by simp)
  have eL : ((p.rules.map GRule.row).drop n).map ofDs ++ ((p.rules.map GRule.row).take n).map ofDs = ((p.rules.drop n ++ p.rules.take n).map GRule.row).map ofDs := by simp
  have lT : p.rules.length - n + n = (p.rules.drop n ++ p.rules.take n).length := by simp; omega
  have rA : roomy (p.rules.length - n) 120 = true := by unfold roomy; exact decide_eq_true (by omega)
  have rB : roomy (p.rules.length - n + n) 120 = true := by unfold roomy; exact decide_eq_true (by omega)
  have kk : (k : Int) < g.prods.length := by omega
  have sA := stA_prodT hk2 hpq
  have hkX : k < (g.prods.map GProd.row).length := by simp; omega
  have rs1 := fun r => refs_set r (g.prods.map GProd.row) k hkX
  have rn1 := fun f sh r => ren_set f sh r (g.prods.map GProd.row) k
  have nr : (p.rules.length : Int) ≠ 0 := hr
  have tp := turn_perm p.rules n
  have ct := edges_okT A H (P := isNum) (g := g) (k := k) (p := p) (rs := p.rules.drop n ++ p.rules.take n) (amay_turn A hg hk2 hpq tp) hk2 (by omega) (fun r hr => by
   have hr' := tp.mem_iff.1 hr
   exact ⟨(hg.rule hp hr').all, by have := (hg.rule hp hr').few; omega⟩) (by rw [← lT]; omega)
  obtain ⟨y, ct, rfl⟩ := ct
  simp only [evAll, Nat.reduceBEq, ↓reduceIte, Nat.reduceEqDiff, Nat.reduceAdd, Nat.reduceLeDiff, Nat.reduceSub, Nat.reduceLT, reduceCtorEq, Int.reduceEq, Int.reduceLT, Int.reduceLE, Int.reduceNeg, loopQ, Int.reduceToNat, Nat.reduceMul, List.range'_one, c163, hb, hbl, h200, c1, c2', w1, w2, nz, nz', List.length_map, hk, ga, eq_true zk, hr, nr, hn, ce, evLd, evB, evZ, evZ2, rp, eq_true zn, eq_true ln, and_self, tkl, L1, L3, tkk, eL, lT, rA, rB, eq_true kk, sA, rs1, rn1, refsRows_ofDs, renRows_ofDs, ct, List.length_nil, Nat.sub_zero, List.drop_zero, List.take_nil, List.drop_nil, List.nil_append, Nat.le_refl, Nat.add_zero, Nat.zero_add]
  have rC : roomy (p.rules.drop n ++ p.rules.take n).length 120 = true := by rw [← lT]; exact rB
  have ep := edges_perm tp
  have el := ep.length_eq
  have hlen1 := edges_len (rs := p.rules) (fun r hr => by have := (hg.rule hp hr).few; omega)
  refine ⟨rC, by rfl, by rfl, ?_⟩
  rw [if_neg (by rw [decide_eq_true_eq]; intro h; exact h (by rw [el]))]
  refine tu0 (l := l) (n' := n') (g := g) (k := k) (p := p) (rl := p.rules.drop n ++ p.rules.take n) (es := rulesEdges p.rules) (bs := rulesEdges (p.rules.drop n ++ p.rules.take n)) (by omega) (by omega) (fun x hx => ep.mem_iff.2 hx) (fun tm hp => ?_) (rulesEdges p.rules).length 0 (by omega)
  simp only [evAll, Nat.reduceBEq, ↓reduceIte, Nat.reduceEqDiff, Nat.reduceAdd, Nat.reduceLeDiff, Nat.reduceSub, Nat.reduceLT, reduceCtorEq, Int.reduceEq, Int.reduceLT, Int.reduceLE, Int.reduceNeg, loopQ, Int.reduceToNat, Nat.reduceMul, List.range'_one]
end Ab
