/-
 GA: W1,GCode,GE,G0,A1,A2.
-/
import Derived.Test.YtdbjkmciidcanaaPack5
import Derived.IntWalk
import Derived.Test.YtdbjkmciidcanaaPack4
namespace Ab
open Go
set_option linter.unusedVariables false
set_option linter.unusedSimpArgs false
set_option maxRecDepth 100000
variable {E : Nat → Option Fn}
theorem i64w {n : Int} (h1 : -9223372036854775808 ≤ n) (h2 : n ≤ 9223372036854775807) : IntKind.i64.wrap n = n := Go.IntWalk.i64_in n ⟨h1, h2⟩
theorem hand_ofDs : ∀ (ds : List D), V.handAll (ofDs ds) = some (ofDs ds)
 | [] => by simp [ofDs, V.handAll]
 | x :: r => by
  have := hand_ofDs r
  simp only [ofDs, List.map_cons] at this ⊢
  simp [V.handAll, V.hand, this]
theorem refs_ofDs : ∀ (ds : List D), V.refsAll (ofDs ds) = []
 | [] => by simp [ofDs, V.refsAll]
 | x :: r => by
  have := refs_ofDs r
  simp only [ofDs, List.map_cons] at this ⊢
  simp [V.refsAll, V.refs, this]
theorem ren_ofDs (f sh : Nat → Nat) : ∀ (ds : List D), V.renAll f sh (ofDs ds) = ofDs ds
 | [] => by simp [ofDs, V.renAll]
 | x :: r => by
  have := ren_ofDs f sh r
  simp only [ofDs, List.map_cons] at this ⊢
  simp [V.renAll, V.ren, this]
def rowV (ag : Bool) (r : List D) : V := if ag then .agg (ofDs r) else .d (r.headD .np)
theorem hand_rowV (ag : Bool) (r : List D) : V.hand (rowV ag r) = some (rowV ag r) := by
 cases ag
 ·simp [rowV, V.hand]
 ·simp [rowV, V.hand, hand_ofDs]
theorem refs_rowV (ag : Bool) (r : List D) : V.refs (rowV ag r) = [] := by
 cases ag
 ·simp [rowV, V.refs]
 ·simp [rowV, V.refs, refs_ofDs]
theorem ren_rowV (f sh : Nat → Nat) (ag : Bool) (r : List D) : V.ren f sh (rowV ag r) = rowV ag r := by
 cases ag
 ·simp [rowV, V.ren]
 ·simp [rowV, V.ren, ren_ofDs]
theorem ld_rowV {ag : Bool} {sz : Nat} {r : List D} (h : r.length = sz) (ha : ag = false → sz = 1) : asO ag sz (takeV (ofDs r) 0 sz) = some (rowV ag r) := by
 have hl : (ofDs r).length = sz := by simp [ofDs, h]
 have ht : takeV (ofDs r) 0 sz = some (ofDs r) := by
  unfold takeV
  rw [if_pos (by omega), List.drop_zero, List.take_of_length_le (by omega)]
 rw [ht]
 cases ag with
 | true => simp [asO, asVar, hl, rowV]
 | false =>
  have h1 := ha rfl
  subst h1
  match r, h with
  | [x], _ => rfl
theorem evY :
  (∀ (a b c d e : V) (r : List V), takeV (a :: b :: c :: d :: e :: r) 0 5 = some [a, b, c, d, e]) ∧
  (∀ (a b c d e f : V) (r : List V), takeV (a :: b :: c :: d :: e :: f :: r) 0 6 = some [a, b, c, d, e, f]) ∧
  (∀ (a b c d e f g : V) (r : List V), takeV (a :: b :: c :: d :: e :: f :: g :: r) 0 7 = some [a, b, c, d, e, f, g]) ∧
  (∀ (a b c d e f g h : V) (r : List V), takeV (a :: b :: c :: d :: e :: f :: g :: h :: r) 0 8 = some [a, b, c, d, e, f, g, h]) ∧
  (∀ (a b c d e f g h i : V) (r : List V), takeV (a :: b :: c :: d :: e :: f :: g :: h :: i :: r) 0 9 = some [a, b, c, d, e, f, g, h, i]) ∧
  (∀ (a b c d e f g h i j : V) (r : List V), takeV (a :: b :: c :: d :: e :: f :: g :: h :: i :: j :: r) 0 10 = some [a, b, c, d, e, f, g, h, i, j]) ∧
  (∀ (a b c d e f g h i j k : V) (r : List V), takeV (a :: b :: c :: d :: e :: f :: g :: h :: i :: j :: k :: r) 0 11 = some [a, b, c, d, e, f, g, h, i, j, k]) ∧
  (∀ (a b c d e f g h i j k l : V) (r : List V), takeV (a :: b :: c :: d :: e :: f :: g :: h :: i :: j :: k :: l :: r) 0 12 = some [a, b, c, d, e, f, g, h, i, j, k, l]) := by
 refine ⟨?_, ?_, ?_, ?_, ?_, ?_, ?_, ?_⟩ <;> intros <;> simp [takeV]
@[reducible] def oo (d : Nat) (c : Cop) : CO := ⟨some d, c, none, 0⟩
theorem oo_eq (d : Nat) (c : Cop) : oo d c = ⟨some d, c, none, 0⟩ := rfl
theorem far_eq : far = 4096 := rfl
set_option linter.defProp false in
def evPl := And.intro @List.getD_cons_zero.{0} (And.intro @List.getD_cons_succ.{0} (And.intro @Bool.or_self (And.intro @Bool.or_false (And.intro @Bool.false_or (And.intro @Bool.or_true (And.intro @Bool.true_or (And.intro @Bool.and_true (And.intro @Bool.true_and (And.intro @Bool.and_self (And.intro @Bool.and_false (And.intro @Bool.false_and (And.intro @Bool.not_false (And.intro @Bool.not_true (And.intro Bool.false_eq_true (And.intro not_true_eq_false (And.intro not_false_eq_true (And.intro @true_and (And.intro @Int.toNat_natCast (And.intro @Int.cast_ofNat_Int far_eq)))))))))))))))))))
set_option linter.defProp false in
def evAll := And.intro oo_eq (And.intro evPl (And.intro evY (And.intro evQ (And.intro evK (And.intro evG (And.intro evW (And.intro evX (And.intro evM (And.intro evN (And.intro evC (And.intro evR evH)))))))))))
def idxC (sz : Nat) (ag : Bool) : CFn := ⟨.seq (.region false [
 ⟨(some 4), .mv (.k (.d (.i .i64 0))), none, 0⟩]) (
.seq (.seq (.region false [
 ⟨(some 6), .mv (.t 0), none, 0⟩,
 ⟨(some 7), .len 0 (.t 6), none, 0⟩,
 ⟨(some 8), .mv (.k (.d (.i .i64 0))), none, 0⟩]) (
.block 0 (.loop ⟨[0, 1, 7, 8], [], [], [], [], true⟩ (.seq (.region false [
 ⟨(some 9), .bin .lss (.t 8) (.t 7), none, 0⟩]) (
.seq (.cond (.t 9) (
.skip) (.exit 0)) (
.seq (.block 1 (.seq (.region false [
 ⟨(some 10), .mv (.t 8), none, 0⟩,
 ⟨(some 5), .mv (.t 10), none, 0⟩]) (
.seq (.region false [
 ⟨(some 11), .mv (.t 1), none, 0⟩,
 ⟨(some 12), .mv (.t 0), none, 0⟩,
 ⟨(some 13), .mv (.t 5), none, 0⟩,
 ⟨(some 14), .ia sz (.t 12) (.t 13), none, 0⟩,
 ⟨(some 15), .ld ag sz (.t 14), none, 0⟩,
 ⟨(some 16), .callv (.t 11) [(.t 15)] 4 true, none, 0⟩]) (
.cond (.t 16) (
.seq (.region false [
 ⟨(some 17), .mv (.t 5), none, 0⟩,
 ⟨(some 4), .mv (.t 17), none, 0⟩]) (
.ret)) (.skip))))) (
.region false [
 ⟨(some 18), .bin .add (.t 8) (.k (.d (.i .i64 1))), none, 0⟩,
 ⟨(some 8), .mv (.t 18), none, 0⟩]))))))) (
.seq (.region false [
 ⟨(some 4), .mv (.k (.d (.i .i64 (-1)))), none, 0⟩]) (
.ret))), [.slot 4]⟩
def contC (k : Nat) : CFn := ⟨.seq (.region false [
 ⟨(some 4), .mv (.k (.d (.b false))), none, 0⟩]) (
.seq (.region false [
 ⟨(some 5), .mv (.t 0), none, 0⟩,
 ⟨(some 6), .mv (.t 1), none, 0⟩,
 ⟨(some 7), .call k [(.t 5), (.t 6)] 4 true, none, 0⟩,
 ⟨(some 8), .bin .geq (.t 7) (.k (.d (.i .i64 0))), none, 0⟩,
 ⟨(some 4), .mv (.t 8), none, 0⟩]) (
.ret)), [.slot 4]⟩
def idxD {α : Type} (p : α → Bool) : List α → Nat → Option Nat
 | [], _ => none
 | x :: r, i => if p x then some i else idxD p r (i + 1)
def idxI (o : Option Nat) : Int := match o with | some i => (i : Int) | none => -1
theorem idxD_any {α : Type} (p : α → Bool) : ∀ (l : List α) (i : Nat), (idxD p l i).isSome = l.any p
 | [], i => rfl
 | x :: r, i => by
  simp only [idxD, List.any_cons]
  cases p x with
  | true => rfl
  | false => simp [idxD_any p r (i + 1)]
theorem idxI_any {α : Type} (p : α → Bool) (l : List α) (i : Nat) : decide (idxI (idxD p l i) ≥ 0) = l.any p := by
 rw [← idxD_any p l i]
 cases idxD p l i with
 | none => simp [idxI]
 | some n => simp [idxI]
def idxLoop (sz : Nat) (ag : Bool) : CCode := match (idxC sz ag).body with
 | .seq _ (.seq (.seq _ (.block _ (.loop _ c))) _) => c
 | _ => .skip
section
variable {E : Nat → Option Fn} {α : Type}
theorem idx_loop {sz : Nat} {ag : Bool} (ha : ag = false → sz = 1) {l : List α} {enc : α → List D} (hl : l.length ≤ 1000000) (hs : ∀ a ∈ l, (enc a).length = sz) {k : Nat} {c : List D} {p : α → Bool}
  (hp : ∀ a ∈ l, lcall E k (rowV ag (enc a) :: ofDs c) [] = some (.d (.b (p a)), [])) {Q : Ex → St → Prop}
  (hno : ∀ tm, idxD p l 0 = none → Q (.exit 0) ⟨tm, []⟩) (hyes : ∀ tm hp (j : Nat), idxD p l 0 = some j → look tm 4 = .d (.i .i64 j) → Q .ret ⟨tm, hp⟩) :
  ∀ (m i : Nat) , i + m = l.length → idxD p l 0 = idxD p (l.drop i) i →
   LX E (idxLoop sz ag) ⟨[0, 1, 7, 8], [], [], [], [], true⟩ 0 ⟨[(0, .d (.l sz (l.map enc))), (1, .d (.f k [] c)), (7, .d (.i .i64 l.length)), (8, .d (.i .i64 i))], []⟩ Q := by
 intro m
 induction m with
 | zero =>
  intro i hi he
  have hn : ¬ ((i : Int) < l.length) := by omega
  rw [List.drop_eq_nil_of_le (by omega)] at he
  refine lx_step ?_
  simp only [evAll, Nat.reduceBEq, ↓reduceIte, Nat.reduceEqDiff, Nat.reduceAdd, Nat.reduceLeDiff, Nat.reduceSub, Nat.reduceLT, reduceCtorEq, Int.reduceEq, Int.reduceLT, Int.reduceLE, Int.reduceNeg, loopQ, Int.reduceToNat, Nat.reduceMul, List.range'_one, idxLoop, idxC, hn]
  exact hno _ he
 | succ m ih =>
  intro i hi he
  have hy : (i : Int) < l.length := by omega
  have la : i < l.length := by omega
  have h0 : (0 : Int) ≤ i := by omega
  have ga : (l.map enc)[i]? = some (enc l[i]) := by rw [List.getElem?_map, List.getElem?_eq_getElem la]; rfl
  have w : IntKind.i64.wrap ((i : Int) + 1) = ((i + 1 : Nat) : Int) := by rw [i64w (by omega) (by omega)]; omega
  have hm := List.getElem_mem la
  have c1 := hp _ hm
  have l1 := ld_rowV (hs _ hm) ha
  rw [List.drop_eq_getElem_cons la] at he
  simp only [idxD] at he
  generalize l[i] = x at *
  cases hpx : p x with
  | true =>
   rw [hpx, if_pos rfl] at he
   rw [hpx] at c1
   refine lx_step ?_
   simp only [evAll, Nat.reduceBEq, ↓reduceIte, Nat.reduceEqDiff, Nat.reduceAdd, Nat.reduceLeDiff, Nat.reduceSub, Nat.reduceLT, reduceCtorEq, Int.reduceEq, Int.reduceLT, Int.reduceLE, Int.reduceNeg, loopQ, Int.reduceToNat, Nat.reduceMul, List.range'_one, idxLoop, idxC, eq_true hy, h0, ga, l1, hand_ofDs, hand_rowV, refs_ofDs, refs_rowV, ren_ofDs, ren_rowV, c1, List.nil_append, List.cons_append]
   refine hyes _ _ i he ?_
   simp only [evAll, Nat.reduceBEq, ↓reduceIte, Nat.reduceEqDiff, Nat.reduceAdd, Nat.reduceLeDiff, Nat.reduceSub, Nat.reduceLT, reduceCtorEq, Int.reduceEq, Int.reduceLT, Int.reduceLE, Int.reduceNeg, loopQ, Int.reduceToNat, Nat.reduceMul, List.range'_one]
  | false =>
   rw [hpx] at he c1
   refine lx_step ?_
   simp only [evAll, Nat.reduceBEq, ↓reduceIte, Nat.reduceEqDiff, Nat.reduceAdd, Nat.reduceLeDiff, Nat.reduceSub, Nat.reduceLT, reduceCtorEq, Int.reduceEq, Int.reduceLT, Int.reduceLE, Int.reduceNeg, loopQ, Int.reduceToNat, Nat.reduceMul, List.range'_one, idxLoop, idxC, eq_true hy, h0, ga, l1, hand_ofDs, hand_rowV, refs_ofDs, refs_rowV, ren_ofDs, ren_rowV, c1, w, List.nil_append, List.cons_append]
   refine ⟨_, ?_, ih (i + 1) (by omega) (by simpa using he)⟩
   simp only [evAll, Nat.reduceBEq, ↓reduceIte, Nat.reduceEqDiff, Nat.reduceAdd, Nat.reduceLeDiff, Nat.reduceLT, Nat.reduceSub, reduceCtorEq]
theorem idx_ok {key sz : Nat} {ag : Bool} (he : E key = some (.code (idxC sz ag))) (ha : ag = false → sz = 1) {l : List α} {enc : α → List D} (hl : l.length ≤ 1000000) (hs : ∀ a ∈ l, (enc a).length = sz) {k : Nat} {c : List D} {p : α → Bool}
  (hp : ∀ a ∈ l, lcall E k (rowV ag (enc a) :: ofDs c) [] = some (.d (.b (p a)), [])) : lcall E key [.d (.l sz (l.map enc)), .d (.f k [] c)] [] = some (.d (.i .i64 (idxI (idxD p l 0))), []) := by
 refine call_q he ?_
 simp only [evAll, Nat.reduceBEq, ↓reduceIte, Nat.reduceEqDiff, Nat.reduceAdd, Nat.reduceLeDiff, Nat.reduceSub, Nat.reduceLT, reduceCtorEq, Int.reduceEq, Int.reduceLT, Int.reduceLE, Int.reduceNeg, loopQ, Int.reduceToNat, Nat.reduceMul, List.range'_one, idxC, List.length_map]
 refine idx_loop ha hl hs hp (fun tm h => ?_) (fun tm hp j h h4 => ?_) l.length 0 (by omega) rfl
 ·rw [h]
  simp only [evAll, Nat.reduceBEq, ↓reduceIte, Nat.reduceEqDiff, Nat.reduceAdd, Nat.reduceLeDiff, Nat.reduceSub, Nat.reduceLT, reduceCtorEq, Int.reduceEq, Int.reduceLT, Int.reduceLE, Int.reduceNeg, loopQ, Int.reduceToNat, Nat.reduceMul, List.range'_one, idxC, idxI]
 ·rw [h]
  simp only [evAll, Nat.reduceBEq, ↓reduceIte, Nat.reduceEqDiff, Nat.reduceAdd, Nat.reduceLeDiff, Nat.reduceSub, Nat.reduceLT, reduceCtorEq, Int.reduceEq, Int.reduceLT, Int.reduceLE, Int.reduceNeg, loopQ, Int.reduceToNat, Nat.reduceMul, List.range'_one, idxC, idxI, h4]
theorem cont_ok {key ki sz : Nat} {ag : Bool} (he : E key = some (.code (contC ki))) (hi : E ki = some (.code (idxC sz ag))) (ha : ag = false → sz = 1) {l : List α} {enc : α → List D} (hl : l.length ≤ 1000000) (hs : ∀ a ∈ l, (enc a).length = sz) {k : Nat} {c : List D} {p : α → Bool}
  (hp : ∀ a ∈ l, lcall E k (rowV ag (enc a) :: ofDs c) [] = some (.d (.b (p a)), [])) : lcall E key [.d (.l sz (l.map enc)), .d (.f k [] c)] [] = some (.d (.b (l.any p)), []) := by
 have c1 := idx_ok hi ha hl hs hp
 refine call_q he ?_
 simp only [evAll, Nat.reduceBEq, ↓reduceIte, Nat.reduceEqDiff, Nat.reduceAdd, Nat.reduceLeDiff, Nat.reduceSub, Nat.reduceLT, reduceCtorEq, Int.reduceEq, Int.reduceLT, Int.reduceLE, Int.reduceNeg, loopQ, Int.reduceToNat, Nat.reduceMul, List.range'_one, contC, c1, idxI_any]
end
def c108 : CFn := ⟨.seq (.region false [
oo 2 (.mv (.k (.d .np)))]) (
.seq (.region false [
oo 3 (.mv (.t 0)),
oo 4 (.build [(.nil 1), (.d (.i .i64 0))] [(0, 1, .t 3)]),
oo 5 (.box (.t 4)),
oo 2 (.mv (.t 5))]) (
.ret)), [.slot 2]⟩
def n108 : Notes := { anns := [], frz := [], rgs := [] }
def c111 : CFn := ⟨.seq (.region false [
oo 1 (.box (.t 0)),
oo 2 (.mv (.k (.d (.b false))))]) (
.seq (.region false [
oo 3 (.ld true 4 (.t 1)),
oo 4 (.call 112 [.t 3] 0 true),
oo 5 (.bin .leq (.t 4) (.k (.d (.i .i64 60)))),
oo 6 (.mv (.t 5)),
⟨some 7, .ld true 4 (.t 1), (some (6, true)), 0⟩,
⟨some 8, .call 125 [.t 7] 0 true, (some (6, true)), 0⟩,
oo 9 (.pick (.t 6) (.t 8) (.k (.d (.b false)))),
oo 2 (.mv (.t 9))]) (
.ret)), [.slot 2]⟩
def n111 : Notes := { anns := [], frz := [], rgs := [] }
def c112 : CFn := ⟨.seq (.region false [
oo 1 (.box (.t 0)),
oo 2 (.mv (.k (.d (.i .i64 0))))]) (
.seq (.region false [
oo 6 (.fa 2 (.t 1)),
oo 7 (.ld false 1 (.t 6)),
oo 8 (.len 1 (.t 7)),
oo 9 (.bin .quo (.t 8) (.k (.d (.i .i64 16)))),
oo 10 (.bin .add (.k (.d (.i .i64 1))) (.t 9)),
oo 3 (.mv (.t 10))]) (
.seq (.seq (.region false [
oo 11 (.fa 3 (.t 1)),
oo 12 (.ld false 1 (.t 11)),
oo 13 (.len 0 (.t 12)),
oo 14 (.mv (.k (.d (.i .i64 0))))]) (
.block 0 (.loop ⟨[3, 12, 13, 14], [], [], [], [], true⟩ (.seq (.region false [
oo 15 (.bin .lss (.t 14) (.t 13))]) (
.seq (.cond (.t 15) (
.skip) (.exit 0)) (
.seq (.block 1 (.seq (.region false [
oo 16 (.ia 4 (.t 12) (.t 14)),
oo 17 (.ld true 4 (.t 16)),
oo 5 (.zero (.agg [(.d (.i .i64 0)), (.d (.i .i64 0)), (.d (.s [])), (.nil 4)])),
⟨none, .st 4 (.t 5) (.t 17), none, 0⟩]) (
.region false [
oo 18 (.mv (.t 3)),
oo 19 (.ld true 4 (.t 5)),
oo 20 (.call 112 [.t 19] 0 true),
oo 21 (.bin .add (.t 18) (.t 20)),
oo 3 (.mv (.t 21))]))) (
.region false [
oo 22 (.bin .add (.t 14) (.k (.d (.i .i64 1)))),
oo 14 (.mv (.t 22))]))))))) (
.seq (.region false [
oo 23 (.mv (.t 3)),
oo 2 (.mv (.t 23))]) (
.ret)))), [.slot 2]⟩
def n112 : Notes := { anns := [⟨[3, 12, 13, 14], [], [], [], [], true⟩], frz := [], rgs := [] }
def c114 : CFn := ⟨.seq (.region false [
oo 2 (.box (.t 0)),
oo 3 (.box (.t 1)),
oo 4 (.mv (.k (.d (.i .i64 0))))]) (
.seq (.region true [
oo 5 (.fa 0 (.t 2)),
⟨some 6, .ld false 1 (.t 5), none, 1⟩,
oo 7 (.fa 0 (.t 3)),
⟨some 8, .ld false 1 (.t 7), none, 4⟩,
⟨some 9, .call 127 [.t 6, .t 8] 0 true, none, 15⟩,
oo 10 (.fa 1 (.t 2)),
⟨some 11, .ld false 1 (.t 10), none, 32⟩,
oo 12 (.fa 1 (.t 3)),
⟨some 13, .ld false 1 (.t 12), none, 128⟩,
⟨some 14, .call 128 [.t 11, .t 13] 0 true, none, 511⟩,
oo 15 (.fa 2 (.t 2)),
⟨some 16, .ld false 1 (.t 15), none, 1024⟩,
oo 17 (.fa 2 (.t 3)),
⟨some 18, .ld false 1 (.t 17), none, 4096⟩,
⟨some 19, .call 129 [.t 16, .t 18] 0 true, none, 16383⟩,
oo 20 (.fa 3 (.t 2)),
⟨some 21, .ld false 1 (.t 20), none, 32768⟩,
oo 22 (.fa 3 (.t 3)),
⟨some 23, .ld false 1 (.t 22), none, 131072⟩,
⟨some 24, .call 130 [.t 21, .t 23, (.k (.d (.f 114 [] [])))] 4 true, none, 524287⟩,
⟨some 25, .bsl 1 4 [(.i .i64 0)] [(0, .t 9), (1, .t 14), (2, .t 19), (3, .t 24)], none, 1048575⟩,
⟨some 26, .call 126 [.t 25] 0 true, none, 2097151⟩,
⟨some 4, .mv (.t 26), none, 4194303⟩]) (
.ret)), [.slot 4]⟩
def n114 : Notes := { anns := [], frz := [], rgs := [] }
def c123 : CFn := ⟨.seq (.region false [
oo 4 (.mv (.k (.d (.i .i64 0))))]) (
.seq (.seq (.region true [
oo 5 (.mv (.t 0)),
⟨some 6, .nilc (.t 5), none, 1⟩,
⟨some 7, .fa 1 (.t 6), none, 3⟩,
⟨some 8, .ld false 1 (.t 7), none, 7⟩,
oo 9 (.mv (.t 0)),
⟨some 10, .nilc (.t 9), none, 16⟩,
⟨some 11, .fa 0 (.t 10), none, 48⟩,
⟨some 12, .ld false 1 (.t 11), none, 112⟩,
⟨some 13, .len 0 (.t 12), none, 240⟩,
⟨some 14, .bin .geq (.t 8) (.t 13), none, 511⟩]) (
.cond (.t 14) (
.seq (.region false [
oo 4 (.mv (.k (.d (.i .i64 0))))]) (
.ret)) (.skip))) (
.seq (.region false [
oo 15 (.mv (.t 0)),
oo 16 (.nilc (.t 15)),
oo 17 (.fa 1 (.t 16)),
oo 18 (.ld false 1 (.t 17)),
oo 19 (.bin .add (.t 18) (.k (.d (.i .i64 1)))),
oo 20 (.nilc (.t 15)),
oo 21 (.fa 1 (.t 20)),
⟨none, .st 1 (.t 21) (.t 19), none, 0⟩]) (
.seq (.region true [
oo 22 (.mv (.t 0)),
⟨some 23, .nilc (.t 22), none, 1⟩,
⟨some 24, .fa 0 (.t 23), none, 3⟩,
⟨some 25, .ld false 1 (.t 24), none, 7⟩,
oo 26 (.mv (.t 0)),
⟨some 27, .nilc (.t 26), none, 16⟩,
⟨some 28, .fa 1 (.t 27), none, 48⟩,
⟨some 29, .ld false 1 (.t 28), none, 112⟩,
⟨some 30, .bin .sub (.t 29) (.k (.d (.i .i64 1))), none, 240⟩,
⟨some 31, .ia 1 (.t 25) (.t 30), none, 511⟩,
⟨some 32, .ld false 1 (.t 31), none, 1023⟩,
⟨some 33, .conv .i64 (.t 32), none, 2047⟩,
oo 34 (.mv (.t 1)),
⟨some 35, .bin .rem (.t 33) (.t 34), none, 8191⟩,
⟨some 4, .mv (.t 35), none, 16383⟩]) (
.ret)))), [.slot 4]⟩
def n123 : Notes := { anns := [], frz := [], rgs := [] }
def c125 : CFn := ⟨.seq (.region false [
oo 1 (.box (.t 0)),
oo 2 (.mv (.k (.d (.b false))))]) (
.seq (.seq (.region false [
oo 3 (.fa 0 (.t 1)),
oo 4 (.ld false 1 (.t 3)),
oo 5 (.bin .lss (.t 4) (.k (.d (.i .i64 1)))),
oo 6 (.mv (.t 5)),
⟨some 7, .fa 0 (.t 1), (some (6, false)), 0⟩,
⟨some 8, .ld false 1 (.t 7), (some (6, false)), 0⟩,
⟨some 9, .bin .gtr (.t 8) (.k (.d (.i .i64 7))), (some (6, false)), 0⟩,
oo 10 (.pick (.t 6) (.k (.d (.b true))) (.t 9)),
oo 11 (.mv (.t 10)),
⟨some 12, .ld true 4 (.t 1), (some (11, false)), 0⟩,
⟨some 13, .call 139 [.t 12] 0 true, (some (11, false)), 0⟩,
⟨some 14, .un .not (.t 13), (some (11, false)), 0⟩,
oo 15 (.pick (.t 11) (.k (.d (.b true))) (.t 14)),
oo 16 (.mv (.t 15)),
⟨some 17, .fa 0 (.t 1), (some (16, false)), 0⟩,
⟨some 18, .ld false 1 (.t 17), (some (16, false)), 0⟩,
⟨some 19, .bin .neq (.t 18) (.k (.d (.i .i64 3))), (some (16, false)), 0⟩,
⟨some 20, .mv (.t 19), (some (16, false)), 0⟩,
⟨some 21, .fa 2 (.t 1), (some (20, true)), 0⟩,
⟨some 22, .ld false 1 (.t 21), (some (20, true)), 0⟩,
⟨some 23, .bin .neq (.t 22) (.k (.d (.s []))), (some (20, true)), 0⟩,
⟨some 24, .pick (.t 20) (.t 23) (.k (.d (.b false))), (some (16, false)), 0⟩,
oo 25 (.pick (.t 16) (.k (.d (.b true))) (.t 24)),
oo 26 (.mv (.t 25)),
⟨some 27, .ld true 4 (.t 1), (some (26, false)), 0⟩,
⟨some 28, .call 140 [.t 27] 0 true, (some (26, false)), 0⟩,
⟨some 29, .un .not (.t 28), (some (26, false)), 0⟩,
oo 30 (.pick (.t 26) (.k (.d (.b true))) (.t 29))]) (
.cond (.t 30) (
.seq (.region false [
oo 2 (.mv (.k (.d (.b false))))]) (
.ret)) (.skip))) (
.seq (.region false [
oo 31 (.fa 3 (.t 1)),
oo 32 (.ld false 1 (.t 31)),
oo 33 (.call 141 [.t 32, (.k (.d (.f 142 [] [])))] 4 true),
oo 34 (.un .not (.t 33)),
oo 2 (.mv (.t 34))]) (
.ret))), [.slot 2]⟩
def n125 : Notes := { anns := [], frz := [], rgs := [] }
def c126 : CFn := ⟨.seq (.region false [
oo 2 (.mv (.k (.d (.i .i64 0))))]) (
.seq (.region false [
oo 3 (.mv (.k (.d (.i .i64 0))))]) (
.seq (.seq (.region false [
oo 6 (.mv (.t 0)),
oo 7 (.len 0 (.t 6)),
oo 8 (.mv (.k (.d (.i .i64 0))))]) (
.block 0 (.loop ⟨[3, 6, 7, 8], [], [], [], [], true⟩ (.seq (.region false [
oo 9 (.bin .lss (.t 8) (.t 7))]) (
.seq (.cond (.t 9) (
.skip) (.exit 0)) (
.seq (.block 1 (.seq (.region false [
oo 10 (.ia 1 (.t 6) (.t 8)),
oo 11 (.ld false 1 (.t 10)),
oo 5 (.mv (.t 11))]) (
.seq (.region false [
oo 12 (.mv (.t 5)),
oo 13 (.mv (.t 3)),
oo 14 (.bin .neq (.t 12) (.t 13))]) (
.cond (.t 14) (
.seq (.region false [
oo 15 (.mv (.t 5)),
oo 2 (.mv (.t 15))]) (
.ret)) (.skip))))) (
.region false [
oo 16 (.bin .add (.t 8) (.k (.d (.i .i64 1)))),
oo 8 (.mv (.t 16))]))))))) (
.seq (.region false [
oo 17 (.mv (.t 3)),
oo 2 (.mv (.t 17))]) (
.ret)))), [.slot 2]⟩
def n126 : Notes := { anns := [⟨[3, 6, 7, 8], [], [], [], [], true⟩], frz := [], rgs := [] }
def c127 : CFn := ⟨.seq (.region false [
oo 4 (.mv (.k (.d (.i .i64 0))))]) (
.seq (.region false [
oo 7 (.mv (.t 0)),
oo 8 (.call 143 [.t 7] 0 true),
oo 5 (.mv (.t 8))]) (
.seq (.region false [
oo 9 (.mv (.t 1)),
oo 10 (.call 143 [.t 9] 0 true),
oo 6 (.mv (.t 10))]) (
.seq (.seq (.region false [
oo 11 (.mv (.t 5))]) (
.cond (.t 11) (
.seq (.seq (.region false [
oo 12 (.mv (.t 6))]) (
.cond (.t 12) (
.seq (.region false [
oo 4 (.mv (.k (.d (.i .i64 0))))]) (
.ret)) (.skip))) (
.seq (.region false [
oo 4 (.mv (.k (.d (.i .i64 (-1)))))]) (
.ret))) (.skip))) (
.seq (.seq (.region false [
oo 13 (.mv (.t 6))]) (
.cond (.t 13) (
.seq (.region false [
oo 4 (.mv (.k (.d (.i .i64 1))))]) (
.ret)) (.skip))) (
.seq (.seq (.region false [
oo 14 (.mv (.t 0)),
oo 15 (.mv (.t 1)),
oo 16 (.bin .lss (.t 14) (.t 15))]) (
.cond (.t 16) (
.seq (.region false [
oo 4 (.mv (.k (.d (.i .i64 (-1)))))]) (
.ret)) (.skip))) (
.seq (.seq (.region false [
oo 17 (.mv (.t 0)),
oo 18 (.mv (.t 1)),
oo 19 (.bin .gtr (.t 17) (.t 18))]) (
.cond (.t 19) (
.seq (.region false [
oo 4 (.mv (.k (.d (.i .i64 1))))]) (
.ret)) (.skip))) (
.seq (.region false [
oo 4 (.mv (.k (.d (.i .i64 0))))]) (
.ret)))))))), [.slot 4]⟩
def n127 : Notes := { anns := [], frz := [], rgs := [] }
def c128 : CFn := ⟨.seq (.region false [
oo 4 (.mv (.k (.d (.i .i64 0))))]) (
.seq (.region false [
oo 7 (.mv (.t 0)),
oo 8 (.call 144 [.t 7] 0 true),
oo 5 (.mv (.t 8))]) (
.seq (.region false [
oo 9 (.mv (.t 1)),
oo 10 (.call 144 [.t 9] 0 true),
oo 6 (.mv (.t 10))]) (
.seq (.seq (.region false [
oo 11 (.mv (.t 5))]) (
.cond (.t 11) (
.seq (.seq (.region false [
oo 12 (.mv (.t 6))]) (
.cond (.t 12) (
.seq (.region false [
oo 4 (.mv (.k (.d (.i .i64 0))))]) (
.ret)) (.skip))) (
.seq (.region false [
oo 4 (.mv (.k (.d (.i .i64 (-1)))))]) (
.ret))) (.skip))) (
.seq (.seq (.region false [
oo 13 (.mv (.t 6))]) (
.cond (.t 13) (
.seq (.region false [
oo 4 (.mv (.k (.d (.i .i64 1))))]) (
.ret)) (.skip))) (
.seq (.seq (.region false [
oo 14 (.mv (.t 0)),
oo 15 (.mv (.t 1)),
oo 16 (.bin .lss (.t 14) (.t 15))]) (
.cond (.t 16) (
.seq (.region false [
oo 4 (.mv (.k (.d (.i .i64 (-1)))))]) (
.ret)) (.skip))) (
.seq (.seq (.region false [
oo 17 (.mv (.t 0)),
oo 18 (.mv (.t 1)),
oo 19 (.bin .gtr (.t 17) (.t 18))]) (
.cond (.t 19) (
.seq (.region false [
oo 4 (.mv (.k (.d (.i .i64 1))))]) (
.ret)) (.skip))) (
.seq (.region false [
oo 4 (.mv (.k (.d (.i .i64 0))))]) (
.ret)))))))), [.slot 4]⟩
def n128 : Notes := { anns := [], frz := [], rgs := [] }
def c129 : CFn := ⟨.seq (.region false [
oo 4 (.mv (.k (.d (.i .i64 0))))]) (
.seq (.region false [
oo 7 (.mv (.t 0)),
oo 8 (.call 145 [.t 7] 0 true),
oo 5 (.mv (.t 8))]) (
.seq (.region false [
oo 9 (.mv (.t 1)),
oo 10 (.call 145 [.t 9] 0 true),
oo 6 (.mv (.t 10))]) (
.seq (.seq (.region false [
oo 11 (.mv (.t 5))]) (
.cond (.t 11) (
.seq (.seq (.region false [
oo 12 (.mv (.t 6))]) (
.cond (.t 12) (
.seq (.region false [
oo 4 (.mv (.k (.d (.i .i64 0))))]) (
.ret)) (.skip))) (
.seq (.region false [
oo 4 (.mv (.k (.d (.i .i64 (-1)))))]) (
.ret))) (.skip))) (
.seq (.seq (.region false [
oo 13 (.mv (.t 6))]) (
.cond (.t 13) (
.seq (.region false [
oo 4 (.mv (.k (.d (.i .i64 1))))]) (
.ret)) (.skip))) (
.seq (.seq (.region false [
oo 14 (.mv (.t 0)),
oo 15 (.mv (.t 1)),
oo 16 (.bin .lss (.t 14) (.t 15))]) (
.cond (.t 16) (
.seq (.region false [
oo 4 (.mv (.k (.d (.i .i64 (-1)))))]) (
.ret)) (.skip))) (
.seq (.seq (.region false [
oo 17 (.mv (.t 0)),
oo 18 (.mv (.t 1)),
oo 19 (.bin .gtr (.t 17) (.t 18))]) (
.cond (.t 19) (
.seq (.region false [
oo 4 (.mv (.k (.d (.i .i64 1))))]) (
.ret)) (.skip))) (
.seq (.region false [
oo 4 (.mv (.k (.d (.i .i64 0))))]) (
.ret)))))))), [.slot 4]⟩
def n129 : Notes := { anns := [], frz := [], rgs := [] }
def c130 : CFn := ⟨.seq (.region false [
oo 6 (.mv (.k (.d (.i .i64 0))))]) (
.seq (.seq (.region false [
oo 11 (.mv (.t 0)),
oo 12 (.len 0 (.t 11)),
oo 13 (.mv (.k (.d (.i .i64 0))))]) (
.block 0 (.loop ⟨[0, 1, 2, 11, 12, 13], [], [], [], [], true⟩ (.seq (.region false [
oo 14 (.bin .lss (.t 13) (.t 12))]) (
.seq (.cond (.t 14) (
.skip) (.exit 0)) (
.seq (.block 1 (.seq (.region false [
oo 15 (.mv (.t 13)),
oo 16 (.ia 4 (.t 11) (.t 13)),
oo 17 (.ld true 4 (.t 16)),
oo 8 (.zero (.agg [(.d (.i .i64 0)), (.d (.i .i64 0)), (.d (.s [])), (.nil 4)])),
oo 7 (.mv (.t 15)),
⟨none, .st 4 (.t 8) (.t 17), none, 0⟩]) (
.seq (.seq (.region false [
oo 18 (.mv (.t 7)),
oo 19 (.mv (.t 1)),
oo 20 (.len 0 (.t 19)),
oo 21 (.bin .geq (.t 18) (.t 20))]) (
.cond (.t 21) (
.seq (.region false [
oo 6 (.mv (.k (.d (.i .i64 1))))]) (
.ret)) (.skip))) (
.seq (.region false [
oo 22 (.mv (.t 1)),
oo 23 (.mv (.t 7)),
oo 24 (.ia 4 (.t 22) (.t 23)),
oo 25 (.ld true 4 (.t 24)),
oo 9 (.zero (.agg [(.d (.i .i64 0)), (.d (.i .i64 0)), (.d (.s [])), (.nil 4)])),
⟨none, .st 4 (.t 9) (.t 25), none, 0⟩]) (
.seq (.region false [
oo 26 (.mv (.t 2)),
oo 27 (.ld true 4 (.t 8)),
oo 28 (.ld true 4 (.t 9)),
oo 29 (.callv (.t 26) [.t 27, .t 28] 4 true),
oo 10 (.mv (.t 29))]) (
.seq (.region false [
oo 30 (.mv (.t 10)),
oo 31 (.bin .neq (.t 30) (.k (.d (.i .i64 0))))]) (
.cond (.t 31) (
.seq (.region false [
oo 32 (.mv (.t 10)),
oo 6 (.mv (.t 32))]) (
.ret)) (.skip)))))))) (
.region false [
oo 33 (.bin .add (.t 13) (.k (.d (.i .i64 1)))),
oo 13 (.mv (.t 33))]))))))) (
.seq (.seq (.region false [
oo 34 (.mv (.t 0)),
oo 35 (.len 0 (.t 34)),
oo 36 (.mv (.t 1)),
oo 37 (.len 0 (.t 36)),
oo 38 (.bin .lss (.t 35) (.t 37))]) (
.cond (.t 38) (
.seq (.region false [
oo 6 (.mv (.k (.d (.i .i64 (-1)))))]) (
.ret)) (.skip))) (
.seq (.region false [
oo 6 (.mv (.k (.d (.i .i64 0))))]) (
.ret)))), [.slot 6]⟩
def n130 : Notes := { anns := [⟨[0, 1, 2, 11, 12, 13], [], [], [], [], true⟩], frz := [], rgs := [] }
def c137 : CFn := ⟨.seq (.region false [
oo 1 (.box (.t 0)),
oo 2 (.mv (.k (.d (.s []))))]) (
.seq (.seq (.region false [
oo 3 (.fa 3 (.t 1)),
oo 4 (.ld false 1 (.t 3)),
oo 5 (.len 0 (.t 4)),
oo 6 (.bin .eql (.t 5) (.k (.d (.i .i64 0))))]) (
.cond (.t 6) (
.seq (.region false [
oo 2 (.mv (.k (.d (.s []))))]) (
.ret)) (.skip))) (
.seq (.region false [
oo 7 (.fa 3 (.t 1)),
oo 8 (.ld false 1 (.t 7)),
oo 9 (.ia 4 (.t 8) (.k (.d (.i .i64 0)))),
oo 10 (.fa 2 (.t 9)),
oo 11 (.ld false 1 (.t 10)),
oo 2 (.mv (.t 11))]) (
.ret))), [.slot 2]⟩
def n137 : Notes := { anns := [], frz := [], rgs := [] }
def c139 : CFn := ⟨.seq (.region false [
oo 1 (.box (.t 0)),
oo 2 (.mv (.k (.d (.b false))))]) (
.seq (.seq (.region false [
oo 3 (.fa 0 (.t 1)),
oo 4 (.ld false 1 (.t 3))]) (
.block 0 (.seq (.region false [
oo 6 (.bin .eql (.t 4) (.k (.d (.i .i64 1)))),
oo 5 (.mv (.t 6))]) (
.cond (.t 5) (
.seq (.region false [
oo 2 (.mv (.k (.d (.b true))))]) (
.ret)) (.seq (.region false [
oo 8 (.bin .eql (.t 4) (.k (.d (.i .i64 2)))),
oo 7 (.mv (.t 8))]) (
.cond (.t 7) (
.seq (.region false [
oo 9 (.fa 1 (.t 1)),
oo 10 (.ld false 1 (.t 9)),
oo 11 (.bin .eql (.t 10) (.k (.d (.i .i64 0)))),
oo 12 (.mv (.t 11)),
⟨some 13, .fa 1 (.t 1), (some (12, false)), 0⟩,
⟨some 14, .ld false 1 (.t 13), (some (12, false)), 0⟩,
⟨some 15, .bin .eql (.t 14) (.k (.d (.i .i64 1))), (some (12, false)), 0⟩,
oo 16 (.pick (.t 12) (.k (.d (.b true))) (.t 15)),
oo 2 (.mv (.t 16))]) (
.ret)) (.seq (.region false [
oo 18 (.bin .eql (.t 4) (.k (.d (.i .i64 7)))),
oo 17 (.mv (.t 18))]) (
.cond (.t 17) (
.seq (.region false [
oo 19 (.fa 1 (.t 1)),
oo 20 (.ld false 1 (.t 19)),
oo 21 (.bin .geq (.t 20) (.k (.d (.i .i64 1)))),
oo 22 (.mv (.t 21)),
⟨some 23, .fa 1 (.t 1), (some (22, true)), 0⟩,
⟨some 24, .ld false 1 (.t 23), (some (22, true)), 0⟩,
⟨some 25, .bin .leq (.t 24) (.k (.d (.i .i64 13))), (some (22, true)), 0⟩,
oo 26 (.pick (.t 22) (.t 25) (.k (.d (.b false)))),
oo 2 (.mv (.t 26))]) (
.ret)) (.skip))))))))) (
.seq (.region false [
oo 27 (.fa 1 (.t 1)),
oo 28 (.ld false 1 (.t 27)),
oo 29 (.bin .eql (.t 28) (.k (.d (.i .i64 0)))),
oo 2 (.mv (.t 29))]) (
.ret))), [.slot 2]⟩
def n139 : Notes := { anns := [], frz := [], rgs := [] }
def c140 : CFn := ⟨.seq (.region false [
oo 1 (.box (.t 0)),
oo 2 (.mv (.k (.d (.b false))))]) (
.seq (.seq (.region false [
oo 3 (.fa 0 (.t 1)),
oo 4 (.ld false 1 (.t 3))]) (
.block 0 (.seq (.region false [
oo 6 (.bin .eql (.t 4) (.k (.d (.i .i64 4)))),
oo 5 (.mv (.t 6))]) (
.cond (.t 5) (
.seq (.region false [
oo 2 (.mv (.k (.d (.b true))))]) (
.ret)) (.seq (.region false [
oo 8 (.bin .eql (.t 4) (.k (.d (.i .i64 5)))),
oo 7 (.mv (.t 8))]) (
.cond (.t 7) (
.seq (.region false [
oo 9 (.fa 3 (.t 1)),
oo 10 (.ld false 1 (.t 9)),
oo 11 (.call 151 [.t 10, (.k (.d (.f 114 [] [])))] 4 true),
oo 2 (.mv (.t 11))]) (
.ret)) (.seq (.region false [
oo 13 (.bin .eql (.t 4) (.k (.d (.i .i64 6)))),
oo 12 (.mv (.t 13))]) (
.cond (.t 12) (
.seq (.region false [
oo 14 (.fa 3 (.t 1)),
oo 15 (.ld false 1 (.t 14)),
oo 16 (.call 141 [.t 15, (.k (.d (.f 152 [] [])))] 4 true),
oo 17 (.un .not (.t 16)),
oo 18 (.mv (.t 17)),
⟨some 19, .fa 3 (.t 1), (some (18, true)), 0⟩,
⟨some 20, .ld false 1 (.t 19), (some (18, true)), 0⟩,
⟨some 21, .call 151 [.t 20, (.k (.d (.f 154 [] [])))] 4 true, (some (18, true)), 0⟩,
oo 22 (.pick (.t 18) (.t 21) (.k (.d (.b false)))),
oo 2 (.mv (.t 22))]) (
.ret)) (.skip))))))))) (
.seq (.region false [
oo 23 (.fa 3 (.t 1)),
oo 24 (.ld false 1 (.t 23)),
oo 25 (.len 0 (.t 24)),
oo 26 (.bin .eql (.t 25) (.k (.d (.i .i64 0)))),
oo 2 (.mv (.t 26))]) (
.ret))), [.slot 2]⟩
def n140 : Notes := { anns := [], frz := [], rgs := [] }
def c141 : CFn := ⟨.seq (.region false [
oo 4 (.mv (.k (.d (.b false))))]) (
.seq (.region false [
oo 5 (.mv (.t 0)),
oo 6 (.mv (.t 1)),
oo 7 (.call 155 [.t 5, .t 6] 4 true),
oo 8 (.bin .geq (.t 7) (.k (.d (.i .i64 0)))),
oo 4 (.mv (.t 8))]) (
.ret)), [.slot 4]⟩
def n141 : Notes := { anns := [], frz := [], rgs := [] }
def c142 : CFn := ⟨.seq (.region false [
oo 1 (.box (.t 0)),
oo 2 (.mv (.k (.d (.b false))))]) (
.seq (.region false [
oo 3 (.fa 0 (.t 1)),
oo 4 (.ld false 1 (.t 3)),
oo 5 (.bin .eql (.t 4) (.k (.d (.i .i64 7)))),
oo 6 (.mv (.t 5)),
⟨some 7, .ld true 4 (.t 1), (some (6, false)), 0⟩,
⟨some 8, .call 125 [.t 7] 0 true, (some (6, false)), 0⟩,
⟨some 9, .un .not (.t 8), (some (6, false)), 0⟩,
oo 10 (.pick (.t 6) (.k (.d (.b true))) (.t 9)),
oo 2 (.mv (.t 10))]) (
.ret)), [.slot 2]⟩
def n142 : Notes := { anns := [], frz := [], rgs := [] }
def c143 : CFn := ⟨.seq (.region false [
oo 2 (.mv (.k (.d (.b false))))]) (
.seq (.region false [
oo 3 (.mv (.t 0)),
oo 4 (.mv (.t 0)),
oo 5 (.bin .neq (.t 3) (.t 4)),
oo 2 (.mv (.t 5))]) (
.ret)), [.slot 2]⟩
def n143 : Notes := { anns := [], frz := [], rgs := [] }
def c144 : CFn := ⟨.seq (.region false [
oo 2 (.mv (.k (.d (.b false))))]) (
.seq (.region false [
oo 3 (.mv (.t 0)),
oo 4 (.mv (.t 0)),
oo 5 (.bin .neq (.t 3) (.t 4)),
oo 2 (.mv (.t 5))]) (
.ret)), [.slot 2]⟩
def n144 : Notes := { anns := [], frz := [], rgs := [] }
def c145 : CFn := ⟨.seq (.region false [
oo 2 (.mv (.k (.d (.b false))))]) (
.seq (.region false [
oo 3 (.mv (.t 0)),
oo 4 (.mv (.t 0)),
oo 5 (.bin .neq (.t 3) (.t 4)),
oo 2 (.mv (.t 5))]) (
.ret)), [.slot 2]⟩
def n145 : Notes := { anns := [], frz := [], rgs := [] }
def c151 : CFn := ⟨.seq (.region false [
oo 4 (.mv (.k (.d (.b false))))]) (
.seq (.seq (.region false [
oo 6 (.mv (.t 0)),
oo 7 (.len 0 (.t 6)),
oo 8 (.mv (.k (.d (.i .i64 0))))]) (
.block 0 (.loop ⟨[0, 1, 7, 8], [], [], [], [], true⟩ (.seq (.region false [
oo 9 (.bin .lss (.t 8) (.t 7))]) (
.seq (.cond (.t 9) (
.skip) (.exit 0)) (
.seq (.block 1 (.seq (.region false [
oo 10 (.mv (.t 8)),
oo 5 (.mv (.t 10))]) (
.seq (.region true [
oo 11 (.mv (.t 5)),
⟨some 12, .bin .gtr (.t 11) (.k (.d (.i .i64 0))), none, 1⟩,
⟨some 13, .mv (.t 12), none, 3⟩,
⟨some 14, .mv (.t 1), (some (13, true)), 7⟩,
⟨some 15, .mv (.t 0), (some (13, true)), 7⟩,
⟨some 16, .mv (.t 5), (some (13, true)), 7⟩,
⟨some 17, .bin .sub (.t 16) (.k (.d (.i .i64 1))), (some (13, true)), 39⟩,
⟨some 18, .ia 4 (.t 15) (.t 17), (some (13, true)), 119⟩,
⟨some 19, .ld true 4 (.t 18), (some (13, true)), 247⟩,
⟨some 20, .mv (.t 0), (some (13, true)), 7⟩,
⟨some 21, .mv (.t 5), (some (13, true)), 7⟩,
⟨some 22, .ia 4 (.t 20) (.t 21), (some (13, true)), 1543⟩,
⟨some 23, .ld true 4 (.t 22), (some (13, true)), 3591⟩,
⟨some 24, .callv (.t 14) [.t 19, .t 23] 4 true, (some (13, true)), 8191⟩,
⟨some 25, .bin .geq (.t 24) (.k (.d (.i .i64 0))), (some (13, true)), 16383⟩,
⟨some 26, .pick (.t 13) (.t 25) (.k (.d (.b false))), none, 32767⟩]) (
.cond (.t 26) (
.seq (.region false [
oo 4 (.mv (.k (.d (.b false))))]) (
.ret)) (.skip))))) (
.region false [
oo 27 (.bin .add (.t 8) (.k (.d (.i .i64 1)))),
oo 8 (.mv (.t 27))]))))))) (
.seq (.region false [
oo 4 (.mv (.k (.d (.b true))))]) (
.ret))), [.slot 4]⟩
def n151 : Notes := { anns := [⟨[0, 1, 7, 8], [], [], [], [], true⟩], frz := [], rgs := [] }
def c152 : CFn := ⟨.seq (.region false [
oo 1 (.box (.t 0)),
oo 2 (.mv (.k (.d (.b false))))]) (
.seq (.region false [
oo 3 (.ld true 4 (.t 1)),
oo 4 (.call 153 [.t 3] 0 true),
oo 5 (.un .not (.t 4)),
oo 2 (.mv (.t 5))]) (
.ret)), [.slot 2]⟩
def n152 : Notes := { anns := [], frz := [], rgs := [] }
def c153 : CFn := ⟨.seq (.region false [
oo 1 (.box (.t 0)),
oo 2 (.mv (.k (.d (.b false))))]) (
.seq (.region false [
oo 3 (.fa 0 (.t 1)),
oo 4 (.ld false 1 (.t 3)),
oo 5 (.bin .eql (.t 4) (.k (.d (.i .i64 4)))),
oo 6 (.mv (.t 5)),
⟨some 7, .fa 3 (.t 1), (some (6, true)), 0⟩,
⟨some 8, .ld false 1 (.t 7), (some (6, true)), 0⟩,
⟨some 9, .len 0 (.t 8), (some (6, true)), 0⟩,
⟨some 10, .bin .eql (.t 9) (.k (.d (.i .i64 2))), (some (6, true)), 0⟩,
oo 11 (.pick (.t 6) (.t 10) (.k (.d (.b false)))),
oo 12 (.mv (.t 11)),
⟨some 13, .fa 3 (.t 1), (some (12, true)), 0⟩,
⟨some 14, .ld false 1 (.t 13), (some (12, true)), 0⟩,
⟨some 15, .ia 4 (.t 14) (.k (.d (.i .i64 0))), (some (12, true)), 0⟩,
⟨some 16, .fa 0 (.t 15), (some (12, true)), 0⟩,
⟨some 17, .ld false 1 (.t 16), (some (12, true)), 0⟩,
⟨some 18, .bin .eql (.t 17) (.k (.d (.i .i64 3))), (some (12, true)), 0⟩,
oo 19 (.pick (.t 12) (.t 18) (.k (.d (.b false)))),
oo 2 (.mv (.t 19))]) (
.ret)), [.slot 2]⟩
def n153 : Notes := { anns := [], frz := [], rgs := [] }
def c154 : CFn := ⟨.seq (.region false [
oo 2 (.box (.t 0)),
oo 3 (.box (.t 1)),
oo 4 (.mv (.k (.d (.i .i64 0))))]) (
.seq (.region true [
oo 5 (.ld true 4 (.t 2)),
⟨some 6, .call 137 [.t 5] 0 true, none, 1⟩,
oo 7 (.ld true 4 (.t 3)),
⟨some 8, .call 137 [.t 7] 0 true, none, 7⟩,
⟨some 9, .call 129 [.t 6, .t 8] 0 true, none, 15⟩,
⟨some 4, .mv (.t 9), none, 31⟩]) (
.ret)), [.slot 4]⟩
def n154 : Notes := { anns := [], frz := [], rgs := [] }
def c155 : CFn := ⟨.seq (.region false [
oo 4 (.mv (.k (.d (.i .i64 0))))]) (
.seq (.seq (.region false [
oo 6 (.mv (.t 0)),
oo 7 (.len 0 (.t 6)),
oo 8 (.mv (.k (.d (.i .i64 0))))]) (
.block 0 (.loop ⟨[0, 1, 7, 8], [], [], [], [], true⟩ (.seq (.region false [
oo 9 (.bin .lss (.t 8) (.t 7))]) (
.seq (.cond (.t 9) (
.skip) (.exit 0)) (
.seq (.block 1 (.seq (.region false [
oo 10 (.mv (.t 8)),
oo 5 (.mv (.t 10))]) (
.seq (.region false [
oo 11 (.mv (.t 1)),
oo 12 (.mv (.t 0)),
oo 13 (.mv (.t 5)),
oo 14 (.ia 4 (.t 12) (.t 13)),
oo 15 (.ld true 4 (.t 14)),
oo 16 (.callv (.t 11) [.t 15] 4 true)]) (
.cond (.t 16) (
.seq (.region false [
oo 17 (.mv (.t 5)),
oo 4 (.mv (.t 17))]) (
.ret)) (.skip))))) (
.region false [
oo 18 (.bin .add (.t 8) (.k (.d (.i .i64 1)))),
oo 8 (.mv (.t 18))]))))))) (
.seq (.region false [
oo 4 (.mv (.k (.d (.i .i64 (-1)))))]) (
.ret))), [.slot 4]⟩
def n155 : Notes := { anns := [⟨[0, 1, 7, 8], [], [], [], [], true⟩], frz := [], rgs := [] }
def c161 : CFn := ⟨.seq (.region false [
oo 2 (.mv (.k (.d (.b false))))]) (
.seq (.seq (.region false [
oo 16 (.call 171 [] 0 true),
oo 17 (.un .not (.t 16))]) (
.cond (.t 17) (
.seq (.region false [
oo 2 (.mv (.k (.d (.b false))))]) (
.ret)) (.skip))) (
.seq (.seq (.region false [
oo 18 (.mv (.t 0)),
oo 19 (.len 0 (.t 18)),
oo 20 (.bin .gtr (.t 19) (.k (.d (.i .i64 200))))]) (
.cond (.t 20) (
.seq (.region false [
oo 2 (.mv (.k (.d (.b true))))]) (
.ret)) (.skip))) (
.seq (.region false [
oo 21 (.mv (.t 0)),
oo 22 (.call 108 [.t 21] 4 true),
oo 23 (.call 168 [.t 22] 4 true),
oo 3 (.zero (.agg [(.nil 3), (.nil 3), (.nil 3)])),
⟨none, .st 3 (.t 3) (.t 23), none, 0⟩]) (
.seq (.seq (.region false [
oo 4 (.mv (.k (.d (.i .i64 0))))]) (
.block 0 (.loop ⟨[3, 4], [], [], [], [], true⟩ (.seq (.seq (.region false [
oo 24 (.mv (.t 4)),
oo 25 (.fa 2 (.t 3)),
oo 26 (.ld false 1 (.t 25)),
oo 27 (.len 0 (.t 26)),
oo 28 (.bin .lss (.t 24) (.t 27))]) (
.cond (.t 28) (
.skip) (.exit 0))) (
.seq (.block 1 (.seq (.region false [
oo 31 (.ld true 3 (.t 3)),
oo 32 (.mv (.t 4)),
oo 33 (.call 172 [.t 31, .t 32] 0 true),
oo 5 (.mv (.t 33))]) (
.seq (.seq (.region false [
oo 6 (.mv (.k (.d (.i .i64 0))))]) (
.block 2 (.loop ⟨[3, 4, 5, 6], [], [], [], [], true⟩ (.seq (.seq (.region false [
oo 34 (.mv (.t 6)),
oo 35 (.mv (.t 5)),
oo 36 (.len 0 (.t 35)),
oo 37 (.bin .lss (.t 34) (.t 36))]) (
.cond (.t 37) (
.skip) (.exit 2))) (
.seq (.block 3 (.seq (.seq (.region false [
oo 7 (.mv (.k (.d (.i .i64 0))))]) (
.block 4 (.loop ⟨[3, 4, 5, 6, 7], [], [], [], [], true⟩ (.seq (.seq (.region false [
oo 40 (.mv (.t 7)),
oo 41 (.bin .lss (.t 40) (.k (.d (.i .i64 2))))]) (
.cond (.t 41) (
.skip) (.exit 4))) (
.seq (.block 5 (.seq (.region true [
oo 44 (.mv (.t 5)),
oo 45 (.mv (.t 6)),
⟨some 46, .ia 4 (.t 44) (.t 45), none, 3⟩,
⟨some 47, .fa 0 (.t 46), none, 7⟩,
⟨some 48, .ld true 2 (.t 47), none, 15⟩,
oo 49 (.mv (.t 5)),
oo 50 (.mv (.t 6)),
⟨some 51, .ia 4 (.t 49) (.t 50), none, 96⟩,
⟨some 52, .fa 2 (.t 51), none, 224⟩,
⟨some 53, .ld true 2 (.t 52), none, 480⟩,
⟨some 54, .bsl 2 2 [(.i .i64 0), (.i .i64 0)] [(0, .t 48), (1, .t 53)], none, 1023⟩,
oo 55 (.mv (.t 7)),
⟨some 56, .ia 2 (.t 54) (.t 55), none, 4095⟩,
⟨some 57, .ld true 2 (.t 56), none, 8191⟩,
oo 8 (.zero (.agg [(.d (.i .i64 0)), (.d (.i .i64 0))])),
⟨none, .st 2 (.t 8) (.t 57), none, 32767⟩]) (
.seq (.region false [
oo 58 (.fa 2 (.t 3)),
oo 59 (.ld false 1 (.t 58)),
oo 60 (.mv (.t 4)),
oo 61 (.ia 3 (.t 59) (.t 60)),
oo 62 (.fa 0 (.t 61)),
oo 63 (.ld false 1 (.t 62)),
oo 9 (.mv (.t 63))]) (
.seq (.seq (.region false [
oo 64 (.iaa 2 1 (.t 8) (.k (.d (.i .i64 0)))),
oo 65 (.ld false 1 (.t 64)),
oo 66 (.bin .gtr (.t 65) (.k (.d (.i .i64 0))))]) (
.cond (.t 66) (
.seq (.seq (.region true [
oo 67 (.iaa 2 1 (.t 8) (.k (.d (.i .i64 0)))),
⟨some 68, .ld false 1 (.t 67), none, 1⟩,
oo 69 (.fa 2 (.t 3)),
⟨some 70, .ld false 1 (.t 69), none, 4⟩,
oo 71 (.mv (.t 4)),
⟨some 72, .ia 3 (.t 70) (.t 71), none, 28⟩,
⟨some 73, .fa 1 (.t 72), none, 60⟩,
⟨some 74, .ld false 1 (.t 73), none, 124⟩,
⟨some 75, .len 0 (.t 74), none, 252⟩,
⟨some 76, .bin .gtr (.t 68) (.t 75), none, 511⟩,
⟨some 77, .mv (.t 76), none, 1023⟩,
⟨some 78, .fa 2 (.t 3), (some (77, false)), 2047⟩,
⟨some 79, .ld false 1 (.t 78), (some (77, false)), 4095⟩,
⟨some 80, .mv (.t 4), (some (77, false)), 2047⟩,
⟨some 81, .ia 3 (.t 79) (.t 80), (some (77, false)), 16383⟩,
⟨some 82, .fa 1 (.t 81), (some (77, false)), 32767⟩,
⟨some 83, .ld false 1 (.t 82), (some (77, false)), 65535⟩,
⟨some 84, .iaa 2 1 (.t 8) (.k (.d (.i .i64 0))), (some (77, false)), 2047⟩,
⟨some 85, .ld false 1 (.t 84), (some (77, false)), 133119⟩,
⟨some 86, .bin .sub (.t 85) (.k (.d (.i .i64 1))), (some (77, false)), 395263⟩,
⟨some 87, .ia 2 (.t 83) (.t 86), (some (77, false)), 1048575⟩,
⟨some 88, .fa 0 (.t 87), (some (77, false)), 2097151⟩,
⟨some 89, .ld false 1 (.t 88), (some (77, false)), 4194303⟩,
⟨some 90, .pick (.t 77) (.k (.d (.b true))) (.t 89), none, 8388607⟩]) (
.cond (.t 90) (
.seq (.region false [
oo 2 (.mv (.k (.d (.b false))))]) (
.ret)) (.skip))) (
.region true [
oo 91 (.fa 2 (.t 3)),
⟨some 92, .ld false 1 (.t 91), none, 1⟩,
oo 93 (.mv (.t 4)),
⟨some 94, .ia 3 (.t 92) (.t 93), none, 7⟩,
⟨some 95, .fa 1 (.t 94), none, 15⟩,
⟨some 96, .ld false 1 (.t 95), none, 31⟩,
oo 97 (.iaa 2 1 (.t 8) (.k (.d (.i .i64 0)))),
⟨some 98, .ld false 1 (.t 97), none, 64⟩,
⟨some 99, .bin .sub (.t 98) (.k (.d (.i .i64 1))), none, 192⟩,
⟨some 100, .ia 2 (.t 96) (.t 99), none, 511⟩,
⟨some 101, .fa 1 (.t 100), none, 1023⟩,
⟨some 102, .ld false 1 (.t 101), none, 2047⟩,
⟨some 9, .mv (.t 102), none, 4095⟩])) (.skip))) (
.seq (.region true [
oo 103 (.iaa 2 1 (.t 8) (.k (.d (.i .i64 0)))),
⟨some 104, .ld false 1 (.t 103), none, 1⟩,
⟨some 105, .bin .lss (.t 104) (.k (.d (.i .i64 0))), none, 3⟩,
⟨some 106, .mv (.t 105), none, 7⟩,
⟨some 107, .iaa 2 1 (.t 8) (.k (.d (.i .i64 1))), (some (106, false)), 15⟩,
⟨some 108, .ld false 1 (.t 107), (some (106, false)), 31⟩,
⟨some 109, .bin .lss (.t 108) (.k (.d (.i .i64 0))), (some (106, false)), 63⟩,
⟨some 110, .pick (.t 106) (.k (.d (.b true))) (.t 109), none, 127⟩,
⟨some 111, .mv (.t 110), none, 255⟩,
⟨some 112, .iaa 2 1 (.t 8) (.k (.d (.i .i64 1))), (some (111, false)), 511⟩,
⟨some 113, .ld false 1 (.t 112), (some (111, false)), 1023⟩,
⟨some 114, .ld true 3 (.t 3), (some (111, false)), 511⟩,
⟨some 115, .mv (.t 9), (some (111, false)), 511⟩,
⟨some 116, .call 173 [.t 114, .t 115] 0 true, (some (111, false)), 6655⟩,
⟨some 117, .bin .geq (.t 113) (.t 116), (some (111, false)), 16383⟩,
⟨some 118, .pick (.t 111) (.k (.d (.b true))) (.t 117), none, 32767⟩,
⟨some 119, .mv (.t 118), none, 65535⟩,
⟨some 120, .iaa 2 1 (.t 8) (.k (.d (.i .i64 0))), (some (119, false)), 131071⟩,
⟨some 121, .ld false 1 (.t 120), (some (119, false)), 262143⟩,
⟨some 122, .bin .eql (.t 121) (.k (.d (.i .i64 0))), (some (119, false)), 524287⟩,
⟨some 123, .ld true 3 (.t 3), (some (119, false)), 131071⟩,
⟨some 124, .mv (.t 9), (some (119, false)), 131071⟩,
⟨some 125, .iaa 2 1 (.t 8) (.k (.d (.i .i64 1))), (some (119, false)), 131071⟩,
⟨some 126, .ld false 1 (.t 125), (some (119, false)), 4325375⟩,
⟨some 127, .call 174 [.t 123, .t 124, .t 126] 0 true, (some (119, false)), 15859711⟩,
⟨some 128, .eqb false (.t 122) (.t 127), (some (119, false)), 33554431⟩,
⟨some 129, .mv (.t 7), (some (119, false)), 131071⟩,
⟨some 130, .bin .eql (.t 129) (.k (.d (.i .i64 0))), (some (119, false)), 67239935⟩,
⟨some 131, .eqb true (.t 128) (.t 130), (some (119, false)), 268435455⟩,
⟨some 132, .pick (.t 119) (.k (.d (.b true))) (.t 131), none, 536870911⟩]) (
.cond (.t 132) (
.seq (.region false [
oo 2 (.mv (.k (.d (.b false))))]) (
.ret)) (.skip))))))) (
.region false [
oo 42 (.mv (.t 7)),
oo 43 (.bin .add (.t 42) (.k (.d (.i .i64 1)))),
oo 7 (.mv (.t 43))])))))) (
.seq (.region false [
oo 10 (.mv (.k (.d (.i .i64 0))))]) (
.block 6 (.loop ⟨[3, 4, 5, 6, 10], [], [], [], [], true⟩ (.seq (.seq (.region false [
oo 133 (.mv (.t 10)),
oo 134 (.mv (.t 6)),
oo 135 (.bin .lss (.t 133) (.t 134))]) (
.cond (.t 135) (
.skip) (.exit 6))) (
.seq (.block 7 (.seq (.region true [
oo 138 (.mv (.t 5)),
oo 139 (.mv (.t 10)),
⟨some 140, .ia 4 (.t 138) (.t 139), none, 3⟩,
⟨some 141, .ld true 4 (.t 140), none, 7⟩,
oo 142 (.mv (.t 5)),
oo 143 (.mv (.t 6)),
⟨some 144, .ia 4 (.t 142) (.t 143), none, 48⟩,
⟨some 145, .ld true 4 (.t 144), none, 112⟩,
⟨some 146, .eqa [.i, .i, .i, .i] false (.t 141) (.t 145), none, 255⟩]) (
.cond (.t 146) (
.seq (.region false [
oo 2 (.mv (.k (.d (.b false))))]) (
.ret)) (.skip)))) (
.region false [
oo 136 (.mv (.t 10)),
oo 137 (.bin .add (.t 136) (.k (.d (.i .i64 1)))),
oo 10 (.mv (.t 137))])))))))) (
.region false [
oo 38 (.mv (.t 6)),
oo 39 (.bin .add (.t 38) (.k (.d (.i .i64 1)))),
oo 6 (.mv (.t 39))])))))) (
.seq (.region false [
oo 11 (.mv (.k (.d (.i .i64 0))))]) (
.seq (.seq (.region false [
oo 12 (.mv (.k (.d (.i .i64 0))))]) (
.block 8 (.loop ⟨[3, 4, 5, 11, 12], [], [], [], [], true⟩ (.seq (.seq (.region false [
oo 147 (.mv (.t 12)),
oo 148 (.fa 2 (.t 3)),
oo 149 (.ld false 1 (.t 148)),
oo 150 (.mv (.t 4)),
oo 151 (.ia 3 (.t 149) (.t 150)),
oo 152 (.fa 2 (.t 151)),
oo 153 (.ld false 1 (.t 152)),
oo 154 (.len 0 (.t 153)),
oo 155 (.bin .lss (.t 147) (.t 154))]) (
.cond (.t 155) (
.skip) (.exit 8))) (
.seq (.block 9 (.seq (.region false [
oo 158 (.mkm),
oo 13 (.mv (.t 158))]) (
.seq (.region false [
oo 159 (.fa 2 (.t 3)),
oo 160 (.ld false 1 (.t 159)),
oo 161 (.mv (.t 4)),
oo 162 (.ia 3 (.t 160) (.t 161)),
oo 163 (.fa 2 (.t 162)),
oo 164 (.ld false 1 (.t 163)),
oo 165 (.mv (.t 12)),
oo 166 (.ia 10 (.t 164) (.t 165)),
oo 167 (.fa 2 (.t 166)),
oo 168 (.ld true 8 (.t 167)),
oo 169 (.call 175 [.t 168] 0 true),
oo 14 (.mv (.t 169))]) (
.seq (.region false [
oo 15 (.mv (.k (.d (.i .i64 0))))]) (
.block 10 (.loop ⟨[3, 4, 5, 11, 12, 13, 14, 15], [], [], [], [], true⟩ (.seq (.seq (.region false [
oo 170 (.mv (.t 15)),
oo 171 (.mv (.t 14)),
oo 172 (.len 0 (.t 171)),
oo 173 (.bin .lss (.t 170) (.t 172))]) (
.cond (.t 173) (
.skip) (.exit 10))) (
.seq (.block 11 (.seq (.region false [
oo 176 (.mv (.t 13)),
oo 177 (.mv (.t 14)),
oo 178 (.mv (.t 15)),
oo 179 (.ia 2 (.t 177) (.t 178)),
oo 180 (.ld true 2 (.t 179)),
oo 181 (.lk true [.i, .i] false (.d (.b false)) (.t 176) (.t 180)),
oo 182 (.un .not (.t 181))]) (
.cond (.t 182) (
.seq (.region false [
oo 183 (.mv (.t 13)),
oo 184 (.mv (.t 14)),
oo 185 (.mv (.t 15)),
oo 186 (.ia 2 (.t 184) (.t 185)),
oo 187 (.ld true 2 (.t 186)),
⟨none, .mu true [.i, .i] (.t 183) (.t 187) (.k (.d (.b true))), none, 0⟩]) (
.region false [
oo 188 (.mv (.t 11)),
oo 189 (.bin .add (.t 188) (.k (.d (.i .i64 1)))),
oo 11 (.mv (.t 189))])) (.skip)))) (
.region false [
oo 174 (.mv (.t 15)),
oo 175 (.bin .add (.t 174) (.k (.d (.i .i64 1)))),
oo 15 (.mv (.t 175))]))))))))) (
.region false [
oo 156 (.mv (.t 12)),
oo 157 (.bin .add (.t 156) (.k (.d (.i .i64 1)))),
oo 12 (.mv (.t 157))])))))) (
.seq (.region false [
oo 190 (.mv (.t 11)),
oo 191 (.mv (.t 5)),
oo 192 (.len 0 (.t 191)),
oo 193 (.bin .neq (.t 190) (.t 192))]) (
.cond (.t 193) (
.seq (.region false [
oo 2 (.mv (.k (.d (.b false))))]) (
.ret)) (.skip)))))))) (
.region false [
oo 29 (.mv (.t 4)),
oo 30 (.bin .add (.t 29) (.k (.d (.i .i64 1)))),
oo 4 (.mv (.t 30))])))))) (
.seq (.region false [
oo 2 (.mv (.k (.d (.b true))))]) (
.ret)))))), [.slot 2]⟩
def n161 : Notes := { anns := [⟨[3, 4], [], [], [], [], true⟩, ⟨[3, 4, 5, 6], [], [], [], [], true⟩, ⟨[3, 4, 5, 6, 7], [], [], [], [], true⟩, ⟨[3, 4, 5, 6, 10], [], [], [], [], true⟩, ⟨[3, 4, 5, 11, 12], [], [], [], [], true⟩, ⟨[3, 4, 5, 11, 12, 13, 14, 15], [], [], [], [], true⟩], frz := [], rgs := [] }
def c168 : CFn := ⟨.seq (.region false [
oo 2 (.zero (.agg [(.nil 3), (.nil 3), (.nil 3)]))]) (
.seq (.region false [
oo 12 (.build [(.nil 3), (.nil 3), (.nil 3)] []),
oo 3 (.zero (.agg [(.nil 3), (.nil 3), (.nil 3)])),
⟨none, .st 3 (.t 3) (.t 12), none, 0⟩]) (
.seq (.seq (.region false [
oo 13 (.mv (.t 0)),
oo 14 (.call 123 [.t 13, (.k (.d (.i .i64 3)))] 4 true),
oo 15 (.bin .add (.t 14) (.k (.d (.i .i64 1)))),
oo 4 (.mv (.t 15))]) (
.block 0 (.loop ⟨[0, 2, 3, 4], [], [(3, 0)], [], [], true⟩ (.seq (.seq (.region false [
oo 16 (.mv (.t 4)),
oo 17 (.bin .gtr (.t 16) (.k (.d (.i .i64 0))))]) (
.cond (.t 17) (
.skip) (.exit 0))) (
.seq (.block 1 (.seq (.region false [
oo 20 (.fa 0 (.t 3)),
oo 21 (.ld false 1 (.t 20)),
oo 22 (.len 0 (.t 21)),
oo 23 (.bin .add (.k (.d (.i .i64 97))) (.t 22)),
oo 24 (.conv .u8 (.t 23)),
oo 25 (.bsl 1 1 [(.i .u8 0)] [(0, .t 24)]),
oo 26 (.bts (.t 25)),
oo 5 (.mv (.t 26))]) (
.region false [
oo 27 (.fa 0 (.t 3)),
oo 28 (.ld false 1 (.t 27)),
oo 29 (.mv (.t 5)),
oo 30 (.bin .add (.k (.d (.s [116]))) (.t 29)),
oo 31 (.mv (.t 5)),
oo 32 (.build [(.d (.s [])), (.d (.s [])), (.d (.b false))] [(0, 1, .t 30), (1, 1, .t 31)]),
oo 33 (.bsl 3 1 [(.s []), (.s []), (.b false)] [(0, .t 32)]),
oo 34 (.app 3 40 (.t 28) (.t 33)),
oo 35 (.fa 0 (.t 3)),
⟨none, .st 1 (.t 35) (.t 34), none, 0⟩]))) (
.region false [
oo 18 (.mv (.t 4)),
oo 19 (.bin .sub (.t 18) (.k (.d (.i .i64 1)))),
oo 4 (.mv (.t 19))])))))) (
.seq (.seq (.region false [
oo 36 (.mv (.t 0)),
oo 37 (.call 123 [.t 36, (.k (.d (.i .i64 4)))] 4 true),
oo 38 (.bin .add (.t 37) (.k (.d (.i .i64 1)))),
oo 6 (.mv (.t 38))]) (
.block 2 (.loop ⟨[0, 2, 3, 6], [], [(3, 1)], [], [], true⟩ (.seq (.seq (.region false [
oo 39 (.mv (.t 6)),
oo 40 (.bin .gtr (.t 39) (.k (.d (.i .i64 0))))]) (
.cond (.t 40) (
.skip) (.exit 2))) (
.seq (.block 3 (.seq (.region false [
oo 43 (.fa 1 (.t 3)),
oo 44 (.ld false 1 (.t 43)),
oo 45 (.len 0 (.t 44)),
oo 46 (.bin .add (.k (.d (.i .i64 97))) (.t 45)),
oo 47 (.conv .u8 (.t 46)),
oo 48 (.bsl 1 1 [(.i .u8 0)] [(0, .t 47)]),
oo 49 (.bts (.t 48)),
oo 50 (.bin .add (.k (.d (.s [110]))) (.t 49)),
oo 51 (.build [(.d (.s [])), (.nil 1), (.nil 1)] [(0, 1, .t 50)]),
oo 7 (.zero (.agg [(.d (.s [])), (.nil 1), (.nil 1)])),
⟨none, .st 3 (.t 7) (.t 51), none, 0⟩]) (
.seq (.seq (.region false [
oo 52 (.fa 1 (.t 3)),
oo 53 (.ld false 1 (.t 52)),
oo 54 (.len 0 (.t 53)),
oo 55 (.bin .gtr (.t 54) (.k (.d (.i .i64 0))))]) (
.cond (.t 55) (
.region false [
oo 56 (.bsl 1 2 [(.s [])] [(0, (.k (.d (.s [105])))), (1, (.k (.d (.s [106]))))]),
oo 57 (.mv (.t 0)),
oo 58 (.call 123 [.t 57, (.k (.d (.i .i64 3)))] 4 true),
oo 59 (.slc 1 (.t 56) none (some (.t 58))),
oo 60 (.fa 1 (.t 7)),
⟨none, .st 1 (.t 60) (.t 59), none, 0⟩]) (.skip))) (
.seq (.region false [
oo 61 (.bsl 1 2 [(.s [])] [(0, (.k (.d (.s [115])))), (1, (.k (.d (.s [117]))))]),
oo 62 (.mv (.t 0)),
oo 63 (.call 123 [.t 62, (.k (.d (.i .i64 3)))] 4 true),
oo 64 (.slc 1 (.t 61) none (some (.t 63))),
oo 65 (.fa 2 (.t 7)),
⟨none, .st 1 (.t 65) (.t 64), none, 0⟩]) (
.region false [
oo 66 (.fa 1 (.t 3)),
oo 67 (.ld false 1 (.t 66)),
oo 68 (.ld true 3 (.t 7)),
oo 69 (.bsl 3 1 [(.s []), (.l 1 []), (.l 1 [])] [(0, .t 68)]),
oo 70 (.app 3 64 (.t 67) (.t 69)),
oo 71 (.fa 1 (.t 3)),
⟨none, .st 1 (.t 71) (.t 70), none, 0⟩]))))) (
.region false [
oo 41 (.mv (.t 6)),
oo 42 (.bin .sub (.t 41) (.k (.d (.i .i64 1)))),
oo 6 (.mv (.t 42))])))))) (
.seq (.seq (.region false [
oo 72 (.mv (.t 0)),
oo 73 (.call 123 [.t 72, (.k (.d (.i .i64 7)))] 4 true),
oo 74 (.bin .add (.t 73) (.k (.d (.i .i64 1)))),
oo 8 (.mv (.t 74))]) (
.block 4 (.loop ⟨[0, 2, 3, 8], [], [(3, 2)], [], [], true⟩ (.seq (.seq (.region false [
oo 75 (.mv (.t 8)),
oo 76 (.bin .gtr (.t 75) (.k (.d (.i .i64 0))))]) (
.cond (.t 76) (
.skip) (.exit 4))) (
.seq (.block 5 (.seq (.region false [
oo 79 (.mv (.t 0)),
oo 80 (.fa 1 (.t 3)),
oo 81 (.ld false 1 (.t 80)),
oo 82 (.len 0 (.t 81)),
oo 83 (.call 123 [.t 79, .t 82] 4 true),
oo 84 (.build [(.d (.i .i64 0)), (.nil 2), (.nil 10)] [(0, 1, .t 83)]),
oo 9 (.zero (.agg [(.d (.i .i64 0)), (.nil 2), (.nil 10)])),
⟨none, .st 3 (.t 9) (.t 84), none, 0⟩]) (
.seq (.seq (.region false [
oo 85 (.mv (.t 0)),
oo 86 (.call 123 [.t 85, (.k (.d (.i .i64 4)))] 4 true),
oo 10 (.mv (.t 86))]) (
.block 6 (.loop ⟨[0, 2, 3, 8, 9, 10], [], [(9, 1)], [], [], true⟩ (.seq (.seq (.region false [
oo 87 (.mv (.t 10)),
oo 88 (.bin .gtr (.t 87) (.k (.d (.i .i64 0))))]) (
.cond (.t 88) (
.skip) (.exit 6))) (
.seq (.block 7 (.seq (.region false [
oo 91 (.mv (.t 0)),
oo 92 (.call 123 [.t 91, (.k (.d (.i .i64 5)))] 4 true),
oo 93 (.bin .lss (.t 92) (.k (.d (.i .i64 3)))),
oo 94 (.build [(.d (.b false)), (.d (.i .i64 0))] [(0, 1, .t 93)]),
oo 11 (.zero (.agg [(.d (.b false)), (.d (.i .i64 0))])),
⟨none, .st 2 (.t 11) (.t 94), none, 0⟩]) (
.seq (.region false [
oo 95 (.mv (.t 0)),
oo 96 (.fa 1 (.t 3)),
oo 97 (.ld false 1 (.t 96)),
oo 98 (.len 0 (.t 97)),
oo 99 (.call 123 [.t 95, .t 98] 4 true),
oo 100 (.fa 1 (.t 11)),
⟨none, .st 1 (.t 100) (.t 99), none, 0⟩]) (
.seq (.seq (.region false [
oo 101 (.fa 0 (.t 11)),
oo 102 (.ld false 1 (.t 101))]) (
.cond (.t 102) (
.region false [
oo 103 (.mv (.t 0)),
oo 104 (.fa 0 (.t 3)),
oo 105 (.ld false 1 (.t 104)),
oo 106 (.len 0 (.t 105)),
oo 107 (.call 123 [.t 103, .t 106] 4 true),
oo 108 (.fa 1 (.t 11)),
⟨none, .st 1 (.t 108) (.t 107), none, 0⟩]) (.skip))) (
.region false [
oo 109 (.fa 1 (.t 9)),
oo 110 (.ld false 1 (.t 109)),
oo 111 (.ld true 2 (.t 11)),
oo 112 (.bsl 2 1 [(.b false), (.i .i64 0)] [(0, .t 111)]),
oo 113 (.app 2 16 (.t 110) (.t 112)),
oo 114 (.fa 1 (.t 9)),
⟨none, .st 1 (.t 114) (.t 113), none, 0⟩]))))) (
.region false [
oo 89 (.mv (.t 10)),
oo 90 (.bin .sub (.t 89) (.k (.d (.i .i64 1)))),
oo 10 (.mv (.t 90))])))))) (
.seq (.region false [
oo 115 (.mv (.t 0)),
oo 116 (.ld true 3 (.t 3)),
oo 117 (.ld true 3 (.t 9)),
oo 118 (.call 183 [.t 115, .t 116, .t 117] 4 true),
oo 119 (.fa 2 (.t 9)),
⟨none, .st 1 (.t 119) (.t 118), none, 0⟩]) (
.region false [
oo 120 (.fa 2 (.t 3)),
oo 121 (.ld false 1 (.t 120)),
oo 122 (.ld true 3 (.t 9)),
oo 123 (.bsl 3 1 [(.i .i64 0), (.l 2 []), (.l 10 [])] [(0, .t 122)]),
oo 124 (.app 3 56 (.t 121) (.t 123)),
oo 125 (.fa 2 (.t 3)),
⟨none, .st 1 (.t 125) (.t 124), none, 0⟩]))))) (
.region false [
oo 77 (.mv (.t 8)),
oo 78 (.bin .sub (.t 77) (.k (.d (.i .i64 1)))),
oo 8 (.mv (.t 78))])))))) (
.seq (.region false [
oo 126 (.ld true 3 (.t 3)),
⟨none, .st 3 (.t 2) (.t 126), none, 0⟩]) (
.ret)))))), [.cell 2 true 3]⟩
def n168 : Notes := { anns := [⟨[0, 2, 3, 4], [], [(3, 0)], [], [], true⟩, ⟨[0, 2, 3, 6], [], [(3, 1)], [], [], true⟩, ⟨[0, 2, 3, 8], [], [(3, 2)], [], [], true⟩, ⟨[0, 2, 3, 8, 9, 10], [], [(9, 1)], [], [], true⟩], frz := [], rgs := [] }
def c169 : CFn := ⟨.seq (.region false [
oo 1 (.box (.t 0)),
oo 2 (.mv (.k (.d (.b false))))]) (
.seq (.region false [
oo 3 (.ld true 3 (.t 1)),
oo 4 (.call 184 [.t 3] 0 true),
oo 5 (.mv (.t 4)),
⟨some 6, .fa 1 (.t 1), (some (5, true)), 0⟩,
⟨some 7, .ld false 1 (.t 6), (some (5, true)), 0⟩,
⟨some 8, .ia 3 (.t 7) (.k (.d (.i .i64 0))), (some (5, true)), 0⟩,
⟨some 9, .fa 1 (.t 8), (some (5, true)), 0⟩,
⟨some 10, .ld false 1 (.t 9), (some (5, true)), 0⟩,
⟨some 11, .len 0 (.t 10), (some (5, true)), 0⟩,
⟨some 12, .bin .eql (.t 11) (.k (.d (.i .i64 0))), (some (5, true)), 0⟩,
oo 13 (.pick (.t 5) (.t 12) (.k (.d (.b false)))),
oo 14 (.mv (.t 13)),
⟨some 15, .fa 2 (.t 1), (some (14, true)), 0⟩,
⟨some 16, .ld false 1 (.t 15), (some (14, true)), 0⟩,
⟨some 17, .mkf 186 [] [.t 1] true, (some (14, true)), 0⟩,
⟨some 18, .call 185 [.t 16, .t 17] 4 true, (some (14, true)), 0⟩,
oo 19 (.pick (.t 14) (.t 18) (.k (.d (.b false)))),
oo 2 (.mv (.t 19))]) (
.ret)), [.slot 2]⟩
def n169 : Notes := { anns := [], frz := [0, 0, 0, 0, 0, 0, 0, 0, 0, 0, 0, 0, 0, 0, 0, 0, 1], rgs := [] }
def c170 : CFn := ⟨.seq (.region false [
oo 2 (.zero (.agg [(.nil 3), (.nil 3), (.nil 3)]))]) (
.seq (.region false [
oo 4 (.build [(.d (.s [])), (.d (.s [])), (.d (.b false))] [(0, 1, (.k (.d (.s [110, 117, 109])))), (1, 1, (.k (.d (.s [91, 48, 45, 57, 93, 43]))))]),
oo 5 (.build [(.d (.s [])), (.d (.s [])), (.d (.b false))] [(0, 1, (.k (.d (.s [105, 100])))), (1, 1, (.k (.d (.s [91, 97, 45, 122, 93, 43]))))]),
oo 6 (.build [(.d (.s [])), (.d (.s [])), (.d (.b false))] [(0, 1, (.k (.d (.s [112, 108, 117, 115])))), (1, 1, (.k (.d (.s [92, 43]))))]),
oo 7 (.build [(.d (.s [])), (.d (.s [])), (.d (.b false))] [(0, 1, (.k (.d (.s [115, 116, 97, 114])))), (1, 1, (.k (.d (.s [92, 42]))))]),
oo 8 (.build [(.d (.s [])), (.d (.s [])), (.d (.b false))] [(0, 1, (.k (.d (.s [111, 112, 101, 110])))), (1, 1, (.k (.d (.s [92, 40]))))]),
oo 9 (.build [(.d (.s [])), (.d (.s [])), (.d (.b false))] [(0, 1, (.k (.d (.s [99, 108, 111, 115, 101])))), (1, 1, (.k (.d (.s [92, 41]))))]),
oo 10 (.build [(.d (.s [])), (.d (.s [])), (.d (.b false))] [(0, 1, (.k (.d (.s [98, 108, 97, 110, 107])))), (1, 1, (.k (.d (.s [91, 32, 92, 45, 93, 43])))), (2, 1, (.k (.d (.b true))))]),
oo 11 (.build [(.d (.s [])), (.d (.s [])), (.d (.b false))] [(0, 1, (.k (.d (.s [108, 101, 116])))), (1, 1, (.k (.d (.s [61]))))]),
oo 12 (.bsa 3 8 [(.s []), (.s []), (.b false)] [(0, .t 4), (1, .t 5), (2, .t 6), (3, .t 7), (4, .t 8), (5, .t 9), (6, .t 10), (7, .t 11)]),
oo 13 (.build [(.nil 3), (.nil 3), (.nil 3)] [(0, 1, .t 12)]),
oo 3 (.zero (.agg [(.nil 3), (.nil 3), (.nil 3)])),
⟨none, .st 3 (.t 3) (.t 13), none, 0⟩]) (
.seq (.region false [
oo 14 (.fa 0 (.t 3)),
oo 15 (.ld false 1 (.t 14)),
oo 16 (.ia 3 (.t 15) (.k (.d (.i .i64 6)))),
oo 17 (.fa 1 (.t 16)),
⟨none, .st 1 (.t 17) (.k (.d (.s [32, 43]))), none, 0⟩]) (
.seq (.region false [
oo 18 (.bsa 1 2 [(.s [])] [(0, (.k (.d (.s [118, 97, 108])))), (1, (.k (.d (.s [98, 97, 100]))))]),
oo 19 (.build [(.d (.s [])), (.nil 1), (.nil 1)] [(0, 1, (.k (.d (.s [115])))), (2, 1, .t 18)]),
oo 20 (.bsa 1 1 [(.s [])] [(0, (.k (.d (.s [101, 110, 118]))))]),
oo 21 (.bsa 1 1 [(.s [])] [(0, (.k (.d (.s [118, 97, 108]))))]),
oo 22 (.build [(.d (.s [])), (.nil 1), (.nil 1)] [(0, 1, (.k (.d (.s [101])))), (1, 1, .t 20), (2, 1, .t 21)]),
oo 23 (.bsa 1 2 [(.s [])] [(0, (.k (.d (.s [101, 110, 118])))), (1, (.k (.d (.s [108, 101, 102, 116]))))]),
oo 24 (.bsa 1 1 [(.s [])] [(0, (.k (.d (.s [118, 97, 108]))))]),
oo 25 (.build [(.d (.s [])), (.nil 1), (.nil 1)] [(0, 1, (.k (.d (.s [109, 111, 114, 101])))), (1, 1, .t 23), (2, 1, .t 24)]),
oo 26 (.bsa 1 1 [(.s [])] [(0, (.k (.d (.s [101, 110, 118]))))]),
oo 27 (.bsa 1 2 [(.s [])] [(0, (.k (.d (.s [118, 97, 108])))), (1, (.k (.d (.s [115, 105, 122, 101]))))]),
oo 28 (.build [(.d (.s [])), (.nil 1), (.nil 1)] [(0, 1, (.k (.d (.s [102])))), (1, 1, .t 26), (2, 1, .t 27)]),
oo 29 (.bsa 3 4 [(.s []), (.l 1 []), (.l 1 [])] [(0, .t 19), (1, .t 22), (2, .t 25), (3, .t 28)]),
oo 30 (.fa 1 (.t 3)),
⟨none, .st 1 (.t 30) (.t 29), none, 0⟩]) (
.seq (.region false [
oo 31 (.build [(.d (.b false)), (.d (.i .i64 0))] [(1, 1, (.k (.d (.i .i64 1))))]),
oo 32 (.bsa 2 1 [(.b false), (.i .i64 0)] [(0, .t 31)]),
oo 33 (.build [(.d (.i .i64 0)), (.d (.i .i64 0)), (.d (.i .i64 0)), (.d (.s [])), (.nil 4), (.d (.i .i64 0)), (.d (.i .i64 0)), (.nil 8)] [(0, 1, (.k (.d (.i .i64 22))))]),
oo 34 (.build [(.d (.i .i64 0)), (.d (.i .i64 0)), (.d (.s [])), (.nil 4)] [(0, 1, (.k (.d (.i .i64 3)))), (2, 1, (.k (.d (.s [120]))))]),
oo 35 (.call 188 [.t 34] 0 true),
oo 36 (.build [(.d (.i .i64 0)), (.d (.i .i64 0)), (.d (.s [])), (.nil 4)] [(0, 1, (.k (.d (.i .i64 1)))), (1, 1, (.k (.d (.i .i64 5))))]),
oo 37 (.call 188 [.t 36] 0 true),
oo 38 (.bsa 8 3 [(.i .i64 0), (.i .i64 0), (.i .i64 0), (.s []), (.l 4 []), (.i .i64 0), (.i .i64 0), (.l 8 [])] [(0, .t 33), (1, .t 35), (2, .t 37)]),
oo 39 (.build [(.d (.i .i64 0)), (.d (.i .i64 0)), (.d (.i .i64 0)), (.d (.s [])), (.nil 4), (.d (.i .i64 0)), (.d (.i .i64 0)), (.nil 8)] [(0, 1, (.k (.d (.i .i64 16)))), (7, 1, .t 38)]),
oo 40 (.build [(.d (.i .i64 0)), (.d (.i .i64 0)), (.d (.i .i64 0)), (.d (.i .i64 0)), (.d (.i .i64 0)), (.d (.s [])), (.nil 4), (.d (.i .i64 0)), (.d (.i .i64 0)), (.nil 8)] [(0, 1, (.k (.d (.i .i64 1)))), (1, 1, (.k (.d (.i .i64 0)))), (2, 8, .t 39)]),
oo 41 (.call 189 [(.k (.d (.i .i64 1))), (.k (.d (.i .i64 1)))] 0 true),
oo 42 (.build [(.d (.i .i64 0)), (.d (.i .i64 0)), (.d (.i .i64 0)), (.d (.i .i64 0)), (.d (.i .i64 0)), (.d (.s [])), (.nil 4), (.d (.i .i64 0)), (.d (.i .i64 0)), (.nil 8)] [(0, 1, (.k (.d (.i .i64 0)))), (1, 1, (.k (.d (.i .i64 0)))), (2, 8, .t 41)]),
oo 43 (.call 189 [(.k (.d (.i .i64 1))), (.k (.d (.i .i64 1)))] 0 true),
oo 44 (.build [(.d (.i .i64 0)), (.d (.i .i64 0)), (.d (.s [])), (.nil 4)] [(0, 1, (.k (.d (.i .i64 1)))), (1, 1, (.k (.d (.i .i64 10))))]),
oo 45 (.call 188 [.t 44] 0 true),
oo 46 (.bsa 8 2 [(.i .i64 0), (.i .i64 0), (.i .i64 0), (.s []), (.l 4 []), (.i .i64 0), (.i .i64 0), (.l 8 [])] [(0, .t 43), (1, .t 45)]),
oo 47 (.build [(.d (.i .i64 0)), (.d (.i .i64 0)), (.d (.i .i64 0)), (.d (.s [])), (.nil 4), (.d (.i .i64 0)), (.d (.i .i64 0)), (.nil 8)] [(0, 1, (.k (.d (.i .i64 8)))), (7, 1, .t 46)]),
oo 48 (.build [(.d (.i .i64 0)), (.d (.i .i64 0)), (.d (.i .i64 0)), (.d (.i .i64 0)), (.d (.i .i64 0)), (.d (.s [])), (.nil 4), (.d (.i .i64 0)), (.d (.i .i64 0)), (.nil 8)] [(0, 1, (.k (.d (.i .i64 0)))), (1, 1, (.k (.d (.i .i64 1)))), (2, 8, .t 47)]),
oo 49 (.bsa 10 3 [(.i .i64 0), (.i .i64 0), (.i .i64 0), (.i .i64 0), (.i .i64 0), (.s []), (.l 4 []), (.i .i64 0), (.i .i64 0), (.l 8 [])] [(0, .t 40), (1, .t 42), (2, .t 48)]),
oo 50 (.build [(.d (.i .i64 0)), (.nil 2), (.nil 10)] [(0, 1, (.k (.d (.i .i64 0)))), (1, 1, .t 32), (2, 1, .t 49)]),
oo 51 (.build [(.d (.b false)), (.d (.i .i64 0))] [(1, 1, (.k (.d (.i .i64 3))))]),
oo 52 (.build [(.d (.b false)), (.d (.i .i64 0))] [(1, 1, (.k (.d (.i .i64 2))))]),
oo 53 (.bsa 2 2 [(.b false), (.i .i64 0)] [(0, .t 51), (1, .t 52)]),
oo 54 (.call 189 [(.k (.d (.i .i64 0))), (.k (.d (.i .i64 0)))] 0 true),
oo 55 (.build [(.d (.i .i64 0)), (.d (.i .i64 0)), (.d (.i .i64 0)), (.d (.i .i64 0)), (.d (.i .i64 0)), (.d (.s [])), (.nil 4), (.d (.i .i64 0)), (.d (.i .i64 0)), (.nil 8)] [(0, 1, (.k (.d (.i .i64 1)))), (1, 1, (.k (.d (.i .i64 0)))), (2, 8, .t 54)]),
oo 56 (.call 189 [(.k (.d (.i .i64 0))), (.k (.d (.i .i64 0)))] 0 true),
oo 57 (.build [(.d (.i .i64 0)), (.d (.i .i64 0)), (.d (.i .i64 0)), (.d (.i .i64 0)), (.d (.i .i64 0)), (.d (.s [])), (.nil 4), (.d (.i .i64 0)), (.d (.i .i64 0)), (.nil 8)] [(0, 1, (.k (.d (.i .i64 2)))), (1, 1, (.k (.d (.i .i64 0)))), (2, 8, .t 56)]),
oo 58 (.call 189 [(.k (.d (.i .i64 1))), (.k (.d (.i .i64 1)))] 0 true),
oo 59 (.build [(.d (.i .i64 0)), (.d (.i .i64 0)), (.d (.i .i64 0)), (.d (.i .i64 0)), (.d (.i .i64 0)), (.d (.s [])), (.nil 4), (.d (.i .i64 0)), (.d (.i .i64 0)), (.nil 8)] [(0, 1, (.k (.d (.i .i64 2)))), (1, 1, (.k (.d (.i .i64 1)))), (2, 8, .t 58)]),
oo 60 (.call 189 [(.k (.d (.i .i64 2))), (.k (.d (.i .i64 2)))] 0 true),
oo 61 (.build [(.d (.i .i64 0)), (.d (.i .i64 0)), (.d (.i .i64 0)), (.d (.i .i64 0)), (.d (.i .i64 0)), (.d (.s [])), (.nil 4), (.d (.i .i64 0)), (.d (.i .i64 0)), (.nil 8)] [(0, 1, (.k (.d (.i .i64 0)))), (1, 1, (.k (.d (.i .i64 1)))), (2, 8, .t 60)]),
oo 62 (.bsa 10 4 [(.i .i64 0), (.i .i64 0), (.i .i64 0), (.i .i64 0), (.i .i64 0), (.s []), (.l 4 []), (.i .i64 0), (.i .i64 0), (.l 8 [])] [(0, .t 55), (1, .t 57), (2, .t 59), (3, .t 61)]),
oo 63 (.build [(.d (.i .i64 0)), (.nil 2), (.nil 10)] [(0, 1, (.k (.d (.i .i64 1)))), (1, 1, .t 53), (2, 1, .t 62)]),
oo 64 (.call 190 [(.k (.d (.i .i64 2)))] 0 true),
oo 65 (.build [(.d (.b false)), (.d (.i .i64 0))] [(1, 1, (.k (.d (.i .i64 3))))]),
oo 66 (.build [(.d (.b false)), (.d (.i .i64 0))] [(1, 1, (.k (.d (.i .i64 2))))]),
oo 67 (.bsa 2 3 [(.b false), (.i .i64 0)] [(0, .t 64), (1, .t 65), (2, .t 66)]),
oo 68 (.call 189 [(.k (.d (.i .i64 0))), (.k (.d (.i .i64 0)))] 0 true),
oo 69 (.build [(.d (.i .i64 0)), (.d (.i .i64 0)), (.d (.i .i64 0)), (.d (.i .i64 0)), (.d (.i .i64 0)), (.d (.s [])), (.nil 4), (.d (.i .i64 0)), (.d (.i .i64 0)), (.nil 8)] [(0, 1, (.k (.d (.i .i64 2)))), (1, 1, (.k (.d (.i .i64 0)))), (2, 8, .t 68)]),
oo 70 (.call 189 [(.k (.d (.i .i64 0))), (.k (.d (.i .i64 0)))] 0 true),
oo 71 (.build [(.d (.i .i64 0)), (.d (.i .i64 0)), (.d (.i .i64 0)), (.d (.i .i64 0)), (.d (.i .i64 0)), (.d (.s [])), (.nil 4), (.d (.i .i64 0)), (.d (.i .i64 0)), (.nil 8)] [(0, 1, (.k (.d (.i .i64 3)))), (1, 1, (.k (.d (.i .i64 0)))), (2, 8, .t 70)]),
oo 72 (.call 189 [(.k (.d (.i .i64 0))), (.k (.d (.i .i64 1)))] 0 true),
oo 73 (.call 189 [(.k (.d (.i .i64 2))), (.k (.d (.i .i64 1)))] 0 true),
oo 74 (.bsa 8 2 [(.i .i64 0), (.i .i64 0), (.i .i64 0), (.s []), (.l 4 []), (.i .i64 0), (.i .i64 0), (.l 8 [])] [(0, .t 72), (1, .t 73)]),
oo 75 (.build [(.d (.i .i64 0)), (.d (.i .i64 0)), (.d (.i .i64 0)), (.d (.s [])), (.nil 4), (.d (.i .i64 0)), (.d (.i .i64 0)), (.nil 8)] [(0, 1, (.k (.d (.i .i64 4)))), (7, 1, .t 74)]),
oo 76 (.build [(.d (.i .i64 0)), (.d (.i .i64 0)), (.d (.i .i64 0)), (.d (.i .i64 0)), (.d (.i .i64 0)), (.d (.s [])), (.nil 4), (.d (.i .i64 0)), (.d (.i .i64 0)), (.nil 8)] [(0, 1, (.k (.d (.i .i64 3)))), (1, 1, (.k (.d (.i .i64 1)))), (2, 8, .t 75)]),
oo 77 (.call 189 [(.k (.d (.i .i64 3))), (.k (.d (.i .i64 2)))] 0 true),
oo 78 (.build [(.d (.i .i64 0)), (.d (.i .i64 0)), (.d (.i .i64 0)), (.d (.i .i64 0)), (.d (.i .i64 0)), (.d (.s [])), (.nil 4), (.d (.i .i64 0)), (.d (.i .i64 0)), (.nil 8)] [(0, 1, (.k (.d (.i .i64 0)))), (1, 1, (.k (.d (.i .i64 2)))), (2, 8, .t 77)]),
oo 79 (.bsa 10 4 [(.i .i64 0), (.i .i64 0), (.i .i64 0), (.i .i64 0), (.i .i64 0), (.s []), (.l 4 []), (.i .i64 0), (.i .i64 0), (.l 8 [])] [(0, .t 69), (1, .t 71), (2, .t 76), (3, .t 78)]),
oo 80 (.build [(.d (.i .i64 0)), (.nil 2), (.nil 10)] [(0, 1, (.k (.d (.i .i64 2)))), (1, 1, .t 67), (2, 1, .t 79)]),
oo 81 (.call 189 [(.k (.d (.i .i64 0))), (.k (.d (.i .i64 1)))] 0 true),
oo 82 (.build [(.d (.i .i64 0)), (.d (.i .i64 0)), (.d (.i .i64 0)), (.d (.i .i64 0)), (.d (.i .i64 0)), (.d (.s [])), (.nil 4), (.d (.i .i64 0)), (.d (.i .i64 0)), (.nil 8)] [(0, 1, (.k (.d (.i .i64 0)))), (1, 1, (.k (.d (.i .i64 2)))), (2, 8, .t 81)]),
oo 83 (.bsa 10 1 [(.i .i64 0), (.i .i64 0), (.i .i64 0), (.i .i64 0), (.i .i64 0), (.s []), (.l 4 []), (.i .i64 0), (.i .i64 0), (.l 8 [])] [(0, .t 82)]),
oo 84 (.build [(.d (.i .i64 0)), (.nil 2), (.nil 10)] [(0, 1, (.k (.d (.i .i64 2)))), (2, 1, .t 83)]),
oo 85 (.call 190 [(.k (.d (.i .i64 0)))] 0 true),
oo 86 (.bsa 2 1 [(.b false), (.i .i64 0)] [(0, .t 85)]),
oo 87 (.build [(.d (.i .i64 0)), (.d (.i .i64 0)), (.d (.i .i64 0)), (.d (.s [])), (.nil 4), (.d (.i .i64 0)), (.d (.i .i64 0)), (.nil 8)] [(0, 1, (.k (.d (.i .i64 3)))), (5, 1, (.k (.d (.i .i64 1))))]),
oo 88 (.build [(.d (.i .i64 0)), (.d (.i .i64 0)), (.d (.i .i64 0)), (.d (.i .i64 0)), (.d (.i .i64 0)), (.d (.s [])), (.nil 4), (.d (.i .i64 0)), (.d (.i .i64 0)), (.nil 8)] [(0, 1, (.k (.d (.i .i64 0)))), (1, 1, (.k (.d (.i .i64 1)))), (2, 8, .t 87)]),
oo 89 (.build [(.d (.i .i64 0)), (.d (.i .i64 0)), (.d (.s [])), (.nil 4)] [(0, 1, (.k (.d (.i .i64 1)))), (1, 1, (.k (.d (.i .i64 1))))]),
oo 90 (.call 188 [.t 89] 0 true),
oo 91 (.build [(.d (.i .i64 0)), (.d (.i .i64 0)), (.d (.i .i64 0)), (.d (.i .i64 0)), (.d (.i .i64 0)), (.d (.s [])), (.nil 4), (.d (.i .i64 0)), (.d (.i .i64 0)), (.nil 8)] [(0, 1, (.k (.d (.i .i64 0)))), (1, 1, (.k (.d (.i .i64 2)))), (2, 8, .t 90)]),
oo 92 (.bsa 10 2 [(.i .i64 0), (.i .i64 0), (.i .i64 0), (.i .i64 0), (.i .i64 0), (.s []), (.l 4 []), (.i .i64 0), (.i .i64 0), (.l 8 [])] [(0, .t 88), (1, .t 91)]),
oo 93 (.build [(.d (.i .i64 0)), (.nil 2), (.nil 10)] [(0, 1, (.k (.d (.i .i64 3)))), (1, 1, .t 86), (2, 1, .t 92)]),
oo 94 (.call 190 [(.k (.d (.i .i64 1)))] 0 true),
oo 95 (.bsa 2 1 [(.b false), (.i .i64 0)] [(0, .t 94)]),
oo 96 (.call 189 [(.k (.d (.i .i64 0))), (.k (.d (.i .i64 0)))] 0 true),
oo 97 (.build [(.d (.i .i64 0)), (.d (.i .i64 0)), (.d (.i .i64 0)), (.d (.s [])), (.nil 4), (.d (.i .i64 0)), (.d (.i .i64 0)), (.nil 8)] [(0, 1, (.k (.d (.i .i64 2)))), (5, 1, (.k (.d (.i .i64 1))))]),
oo 98 (.bsa 8 2 [(.i .i64 0), (.i .i64 0), (.i .i64 0), (.s []), (.l 4 []), (.i .i64 0), (.i .i64 0), (.l 8 [])] [(0, .t 96), (1, .t 97)]),
oo 99 (.build [(.d (.i .i64 0)), (.d (.i .i64 0)), (.d (.i .i64 0)), (.d (.s [])), (.nil 4), (.d (.i .i64 0)), (.d (.i .i64 0)), (.nil 8)] [(0, 1, (.k (.d (.i .i64 17)))), (7, 1, .t 98)]),
oo 100 (.build [(.d (.i .i64 0)), (.d (.i .i64 0)), (.d (.i .i64 0)), (.d (.i .i64 0)), (.d (.i .i64 0)), (.d (.s [])), (.nil 4), (.d (.i .i64 0)), (.d (.i .i64 0)), (.nil 8)] [(0, 1, (.k (.d (.i .i64 0)))), (1, 1, (.k (.d (.i .i64 1)))), (2, 8, .t 99)]),
oo 101 (.build [(.d (.i .i64 0)), (.d (.i .i64 0)), (.d (.i .i64 0)), (.d (.s [])), (.nil 4), (.d (.i .i64 0)), (.d (.i .i64 0)), (.nil 8)] [(0, 1, (.k (.d (.i .i64 2)))), (5, 1, (.k (.d (.i .i64 1))))]),
oo 102 (.bsa 8 1 [(.i .i64 0), (.i .i64 0), (.i .i64 0), (.s []), (.l 4 []), (.i .i64 0), (.i .i64 0), (.l 8 [])] [(0, .t 101)]),
oo 103 (.build [(.d (.i .i64 0)), (.d (.i .i64 0)), (.d (.i .i64 0)), (.d (.s [])), (.nil 4), (.d (.i .i64 0)), (.d (.i .i64 0)), (.nil 8)] [(0, 1, (.k (.d (.i .i64 15)))), (7, 1, .t 102)]),
oo 104 (.build [(.d (.i .i64 0)), (.d (.i .i64 0)), (.d (.i .i64 0)), (.d (.i .i64 0)), (.d (.i .i64 0)), (.d (.s [])), (.nil 4), (.d (.i .i64 0)), (.d (.i .i64 0)), (.nil 8)] [(0, 1, (.k (.d (.i .i64 0)))), (1, 1, (.k (.d (.i .i64 2)))), (2, 8, .t 103)]),
oo 105 (.bsa 10 2 [(.i .i64 0), (.i .i64 0), (.i .i64 0), (.i .i64 0), (.i .i64 0), (.s []), (.l 4 []), (.i .i64 0), (.i .i64 0), (.l 8 [])] [(0, .t 100), (1, .t 104)]),
oo 106 (.build [(.d (.i .i64 0)), (.nil 2), (.nil 10)] [(0, 1, (.k (.d (.i .i64 3)))), (1, 1, .t 95), (2, 1, .t 105)]),
oo 107 (.call 190 [(.k (.d (.i .i64 4)))] 0 true),
oo 108 (.build [(.d (.b false)), (.d (.i .i64 0))] [(1, 1, (.k (.d (.i .i64 1))))]),
oo 109 (.call 190 [(.k (.d (.i .i64 5)))] 0 true),
oo 110 (.bsa 2 3 [(.b false), (.i .i64 0)] [(0, .t 107), (1, .t 108), (2, .t 109)]),
oo 111 (.call 189 [(.k (.d (.i .i64 0))), (.k (.d (.i .i64 0)))] 0 true),
oo 112 (.build [(.d (.i .i64 0)), (.d (.i .i64 0)), (.d (.i .i64 0)), (.d (.i .i64 0)), (.d (.i .i64 0)), (.d (.s [])), (.nil 4), (.d (.i .i64 0)), (.d (.i .i64 0)), (.nil 8)] [(0, 1, (.k (.d (.i .i64 2)))), (1, 1, (.k (.d (.i .i64 0)))), (2, 8, .t 111)]),
oo 113 (.call 189 [(.k (.d (.i .i64 2))), (.k (.d (.i .i64 1)))] 0 true),
oo 114 (.build [(.d (.i .i64 0)), (.d (.i .i64 0)), (.d (.i .i64 0)), (.d (.i .i64 0)), (.d (.i .i64 0)), (.d (.s [])), (.nil 4), (.d (.i .i64 0)), (.d (.i .i64 0)), (.nil 8)] [(0, 1, (.k (.d (.i .i64 0)))), (1, 1, (.k (.d (.i .i64 1)))), (2, 8, .t 113)]),
oo 115 (.build [(.d (.i .i64 0)), (.d (.i .i64 0)), (.d (.s [])), (.nil 4)] [(0, 1, (.k (.d (.i .i64 1)))), (1, 1, (.k (.d (.i .i64 2))))]),
oo 116 (.call 188 [.t 115] 0 true),
oo 117 (.build [(.d (.i .i64 0)), (.d (.i .i64 0)), (.d (.i .i64 0)), (.d (.i .i64 0)), (.d (.i .i64 0)), (.d (.s [])), (.nil 4), (.d (.i .i64 0)), (.d (.i .i64 0)), (.nil 8)] [(0, 1, (.k (.d (.i .i64 0)))), (1, 1, (.k (.d (.i .i64 2)))), (2, 8, .t 116)]),
oo 118 (.bsa 10 3 [(.i .i64 0), (.i .i64 0), (.i .i64 0), (.i .i64 0), (.i .i64 0), (.s []), (.l 4 []), (.i .i64 0), (.i .i64 0), (.l 8 [])] [(0, .t 112), (1, .t 114), (2, .t 117)]),
oo 119 (.build [(.d (.i .i64 0)), (.nil 2), (.nil 10)] [(0, 1, (.k (.d (.i .i64 3)))), (1, 1, .t 110), (2, 1, .t 118)]),
oo 120 (.bsa 3 7 [(.i .i64 0), (.l 2 []), (.l 10 [])] [(0, .t 50), (1, .t 63), (2, .t 80), (3, .t 84), (4, .t 93), (5, .t 106), (6, .t 119)]),
oo 121 (.fa 2 (.t 3)),
⟨none, .st 1 (.t 121) (.t 120), none, 0⟩]) (
.seq (.seq (.region false [
oo 122 (.mv (.t 0)),
oo 123 (.bin .rem (.t 122) (.k (.d (.i .i64 4))))]) (
.block 0 (.seq (.region false [
oo 125 (.bin .eql (.t 123) (.k (.d (.i .i64 1)))),
oo 124 (.mv (.t 125))]) (
.cond (.t 124) (
.region true [
oo 126 (.fa 2 (.t 3)),
⟨some 127, .ld false 1 (.t 126), none, 1⟩,
oo 128 (.call 190 [(.k (.d (.i .i64 7)))] 0 true),
⟨some 129, .call 190 [(.k (.d (.i .i64 1)))] 0 true, none, 4⟩,
oo 130 (.build [(.d (.b false)), (.d (.i .i64 0))] [(1, 1, (.k (.d (.i .i64 3))))]),
oo 131 (.build [(.d (.b false)), (.d (.i .i64 0))] [(1, 1, (.k (.d (.i .i64 3))))]),
⟨some 132, .bsa 2 4 [(.b false), (.i .i64 0)] [(0, .t 128), (1, .t 129), (2, .t 130), (3, .t 131)], none, 60⟩,
⟨some 133, .call 189 [(.k (.d (.i .i64 0))), (.k (.d (.i .i64 0)))] 0 true, none, 12⟩,
⟨some 134, .build [(.d (.i .i64 0)), (.d (.i .i64 0)), (.d (.i .i64 0)), (.d (.i .i64 0)), (.d (.i .i64 0)), (.d (.s [])), (.nil 4), (.d (.i .i64 0)), (.d (.i .i64 0)), (.nil 8)] [(0, 1, (.k (.d (.i .i64 3)))), (1, 1, (.k (.d (.i .i64 0)))), (2, 8, .t 133)], none, 140⟩,
⟨some 135, .call 189 [(.k (.d (.i .i64 0))), (.k (.d (.i .i64 0)))] 0 true, none, 140⟩,
oo 136 (.build [(.d (.i .i64 0)), (.d (.i .i64 0)), (.d (.i .i64 0)), (.d (.s [])), (.nil 4), (.d (.i .i64 0)), (.d (.i .i64 0)), (.nil 8)] [(0, 1, (.k (.d (.i .i64 2)))), (5, 1, (.k (.d (.i .i64 2))))]),
⟨some 137, .call 189 [(.k (.d (.i .i64 3))), (.k (.d (.i .i64 1)))] 0 true, none, 652⟩,
⟨some 138, .bsa 8 3 [(.i .i64 0), (.i .i64 0), (.i .i64 0), (.s []), (.l 4 []), (.i .i64 0), (.i .i64 0), (.l 8 [])] [(0, .t 135), (1, .t 136), (2, .t 137)], none, 3724⟩,
⟨some 139, .build [(.d (.i .i64 0)), (.d (.i .i64 0)), (.d (.i .i64 0)), (.d (.s [])), (.nil 4), (.d (.i .i64 0)), (.d (.i .i64 0)), (.nil 8)] [(0, 1, (.k (.d (.i .i64 16)))), (7, 1, .t 138)], none, 7820⟩,
⟨some 140, .build [(.d (.i .i64 0)), (.d (.i .i64 0)), (.d (.i .i64 0)), (.d (.i .i64 0)), (.d (.i .i64 0)), (.d (.s [])), (.nil 4), (.d (.i .i64 0)), (.d (.i .i64 0)), (.nil 8)] [(0, 1, (.k (.d (.i .i64 4)))), (1, 1, (.k (.d (.i .i64 0)))), (2, 8, .t 139)], none, 16012⟩,
⟨some 141, .call 189 [(.k (.d (.i .i64 4))), (.k (.d (.i .i64 1)))] 0 true, none, 2700⟩,
⟨some 142, .build [(.d (.i .i64 0)), (.d (.i .i64 0)), (.d (.i .i64 0)), (.d (.i .i64 0)), (.d (.i .i64 0)), (.d (.s [])), (.nil 4), (.d (.i .i64 0)), (.d (.i .i64 0)), (.nil 8)] [(0, 1, (.k (.d (.i .i64 0)))), (1, 1, (.k (.d (.i .i64 1)))), (2, 8, .t 141)], none, 35468⟩,
⟨some 143, .call 189 [(.k (.d (.i .i64 3))), (.k (.d (.i .i64 2)))] 0 true, none, 35468⟩,
⟨some 144, .call 189 [(.k (.d (.i .i64 4))), (.k (.d (.i .i64 2)))] 0 true, none, 166540⟩,
⟨some 145, .bsa 8 2 [(.i .i64 0), (.i .i64 0), (.i .i64 0), (.s []), (.l 4 []), (.i .i64 0), (.i .i64 0), (.l 8 [])] [(0, .t 143), (1, .t 144)], none, 428684⟩,
⟨some 146, .build [(.d (.i .i64 0)), (.d (.i .i64 0)), (.d (.i .i64 0)), (.d (.s [])), (.nil 4), (.d (.i .i64 0)), (.d (.i .i64 0)), (.nil 8)] [(0, 1, (.k (.d (.i .i64 4)))), (7, 1, .t 145)], none, 952972⟩,
⟨some 147, .build [(.d (.i .i64 0)), (.d (.i .i64 0)), (.d (.i .i64 0)), (.d (.i .i64 0)), (.d (.i .i64 0)), (.d (.s [])), (.nil 4), (.d (.i .i64 0)), (.d (.i .i64 0)), (.nil 8)] [(0, 1, (.k (.d (.i .i64 0)))), (1, 1, (.k (.d (.i .i64 2)))), (2, 8, .t 146)], none, 2001548⟩,
⟨some 148, .bsa 10 4 [(.i .i64 0), (.i .i64 0), (.i .i64 0), (.i .i64 0), (.i .i64 0), (.s []), (.l 4 []), (.i .i64 0), (.i .i64 0), (.l 8 [])] [(0, .t 134), (1, .t 140), (2, .t 142), (3, .t 147)], none, 4194188⟩,
⟨some 149, .build [(.d (.i .i64 0)), (.nil 2), (.nil 10)] [(0, 1, (.k (.d (.i .i64 3)))), (1, 1, .t 132), (2, 1, .t 148)], none, 8388604⟩,
⟨some 150, .bsa 3 1 [(.i .i64 0), (.l 2 []), (.l 10 [])] [(0, .t 149)], none, 16777212⟩,
⟨some 151, .apa 3 56 (.t 127) (.t 150), none, 33554431⟩,
⟨some 152, .fa 2 (.t 3), none, 67108863⟩,
⟨none, .st 1 (.t 152) (.t 151), none, 134217727⟩]) (.seq (.region false [
oo 154 (.bin .eql (.t 123) (.k (.d (.i .i64 2)))),
oo 153 (.mv (.t 154))]) (
.cond (.t 153) (
.region false [
oo 155 (.fa 2 (.t 3)),
oo 156 (.ld false 1 (.t 155)),
oo 157 (.ia 3 (.t 156) (.k (.d (.i .i64 2)))),
oo 158 (.fa 2 (.t 157)),
oo 159 (.ld false 1 (.t 158)),
oo 160 (.ia 10 (.t 159) (.k (.d (.i .i64 2)))),
oo 161 (.fa 2 (.t 160)),
oo 162 (.fa 0 (.t 161)),
⟨none, .st 1 (.t 162) (.k (.d (.i .i64 6))), none, 0⟩]) (.seq (.region false [
oo 164 (.bin .eql (.t 123) (.k (.d (.i .i64 3)))),
oo 163 (.mv (.t 164))]) (
.cond (.t 163) (
.region false [
oo 165 (.fa 2 (.t 3)),
oo 166 (.ld false 1 (.t 165)),
oo 167 (.ia 3 (.t 166) (.k (.d (.i .i64 0)))),
oo 168 (.fa 2 (.t 167)),
oo 169 (.ld false 1 (.t 168)),
oo 170 (.build [(.d (.i .i64 0)), (.d (.i .i64 0)), (.d (.i .i64 0)), (.d (.s [])), (.nil 4), (.d (.i .i64 0)), (.d (.i .i64 0)), (.nil 8)] [(0, 1, (.k (.d (.i .i64 22))))]),
oo 171 (.ia 10 (.t 169) (.k (.d (.i .i64 0)))),
oo 172 (.fa 2 (.t 171)),
⟨none, .st 8 (.t 172) (.t 170), none, 0⟩]) (.skip))))))))) (
.seq (.region false [
oo 173 (.ld true 3 (.t 3)),
⟨none, .st 3 (.t 2) (.t 173), none, 0⟩]) (
.ret))))))), [.cell 2 true 3]⟩
def n170 : Notes := { anns := [], frz := [0, 0, 0, 0, 0, 0, 0, 0, 0, 1, 0, 0, 0, 0, 0, 0, 0, 0, 1, 0, 1, 1, 0, 1, 1, 0, 1, 1, 0, 1, 0, 0, 0, 1, 0, 0, 0, 0, 0, 1, 0, 0, 0, 0, 0, 0, 0, 1, 0, 0, 1, 0, 0, 0, 1, 0, 0, 0, 0, 0, 0, 0, 0, 1, 0, 0, 0, 0, 1, 0, 0, 0, 0, 0, 0, 1, 0, 0, 0, 0, 1, 0, 0, 0, 1, 0, 0, 1, 0, 0, 0, 0, 0, 1, 0, 0, 1, 0, 0, 1, 0, 0, 0, 1, 0, 0, 1, 0, 0, 0, 0, 1, 0, 0, 0, 0, 0, 0, 0, 1, 0, 1, 0, 0, 0, 0, 0, 0, 0, 0, 0, 0, 0, 0, 1, 0, 0, 0, 0, 0, 1, 0, 0, 0, 0, 0, 0, 1, 0, 0, 1, 0, 1, 1], rgs := [] }
def c171 : CFn := ⟨.seq (.region false [
oo 0 (.mv (.k (.d (.b false))))]) (
.seq (.region false [
oo 2 (.call 170 [(.k (.d (.i .i64 0)))] 0 true),
oo 3 (.call 172 [.t 2, (.k (.d (.i .i64 1)))] 0 true),
oo 1 (.mv (.t 3))]) (
.seq (.region false [
oo 4 (.mv (.t 1)),
oo 5 (.len 0 (.t 4)),
oo 6 (.bin .eql (.t 5) (.k (.d (.i .i64 4)))),
oo 7 (.mv (.t 6)),
⟨some 8, .mv (.t 1), (some (7, true)), 0⟩,
⟨some 9, .ia 4 (.t 8) (.k (.d (.i .i64 0))), (some (7, true)), 0⟩,
⟨some 10, .ld true 4 (.t 9), (some (7, true)), 0⟩,
⟨some 11, .build [(.d (.i .i64 0)), (.d (.i .i64 0))] [(0, 1, (.k (.d (.i .i64 1)))), (1, 1, (.k (.d (.i .i64 0))))], (some (7, true)), 0⟩,
⟨some 12, .build [(.d (.i .i64 0)), (.d (.i .i64 0)), (.d (.i .i64 0)), (.d (.i .i64 0))] [(2, 2, .t 11)], (some (7, true)), 0⟩,
⟨some 13, .eqa [.i, .i, .i, .i] false (.t 10) (.t 12), (some (7, true)), 0⟩,
oo 14 (.pick (.t 7) (.t 13) (.k (.d (.b false)))),
oo 15 (.mv (.t 14)),
⟨some 16, .mv (.t 1), (some (15, true)), 0⟩,
⟨some 17, .ia 4 (.t 16) (.k (.d (.i .i64 2))), (some (15, true)), 0⟩,
⟨some 18, .ld true 4 (.t 17), (some (15, true)), 0⟩,
⟨some 19, .build [(.d (.i .i64 0)), (.d (.i .i64 0))] [(0, 1, (.k (.d (.i .i64 1)))), (1, 1, (.k (.d (.i .i64 1))))], (some (15, true)), 0⟩,
⟨some 20, .build [(.d (.i .i64 0)), (.d (.i .i64 0))] [(0, 1, (.k (.d (.i .i64 2)))), (1, 1, (.k (.d (.i .i64 1))))], (some (15, true)), 0⟩,
⟨some 21, .build [(.d (.i .i64 0)), (.d (.i .i64 0)), (.d (.i .i64 0)), (.d (.i .i64 0))] [(0, 2, .t 19), (2, 2, .t 20)], (some (15, true)), 0⟩,
⟨some 22, .eqa [.i, .i, .i, .i] false (.t 18) (.t 21), (some (15, true)), 0⟩,
oo 23 (.pick (.t 15) (.t 22) (.k (.d (.b false)))),
oo 24 (.mv (.t 23)),
⟨some 25, .call 170 [(.k (.d (.i .i64 0)))] 0 true, (some (24, true)), 0⟩,
⟨some 26, .call 172 [.t 25, (.k (.d (.i .i64 9)))] 0 true, (some (24, true)), 0⟩,
⟨some 27, .len 0 (.t 26), (some (24, true)), 0⟩,
⟨some 28, .bin .eql (.t 27) (.k (.d (.i .i64 0))), (some (24, true)), 0⟩,
oo 29 (.pick (.t 24) (.t 28) (.k (.d (.b false)))),
oo 0 (.mv (.t 29))]) (
.ret))), [.slot 0]⟩
def n171 : Notes := { anns := [], frz := [], rgs := [] }
def c172 : CFn := ⟨.seq (.region false [
oo 2 (.box (.t 0)),
oo 4 (.mv (.k (.nil 4)))]) (
.seq (.seq (.region false [
oo 9 (.ld true 3 (.t 2)),
oo 10 (.lend 169 [.t 9]),
oo 11 (.un .not (.t 10)),
oo 12 (.mv (.t 11)),
⟨some 13, .mv (.t 1), (some (12, false)), 0⟩,
⟨some 14, .bin .lss (.t 13) (.k (.d (.i .i64 0))), (some (12, false)), 0⟩,
oo 15 (.pick (.t 12) (.k (.d (.b true))) (.t 14)),
oo 16 (.mv (.t 15)),
⟨some 17, .mv (.t 1), (some (16, false)), 0⟩,
⟨some 18, .fa 2 (.t 2), (some (16, false)), 0⟩,
⟨some 19, .ld false 1 (.t 18), (some (16, false)), 0⟩,
⟨some 20, .len 0 (.t 19), (some (16, false)), 0⟩,
⟨some 21, .bin .geq (.t 17) (.t 20), (some (16, false)), 0⟩,
oo 22 (.pick (.t 16) (.k (.d (.b true))) (.t 21))]) (
.cond (.t 22) (
.seq (.region false [
oo 4 (.mv (.k (.nil 4)))]) (
.ret)) (.skip))) (
.seq (.seq (.region false [
oo 23 (.fa 2 (.t 2)),
oo 24 (.ld false 1 (.t 23)),
oo 25 (.mv (.t 1)),
oo 26 (.ia 3 (.t 24) (.t 25)),
oo 27 (.fa 2 (.t 26)),
oo 28 (.ld false 1 (.t 27)),
oo 29 (.len 0 (.t 28)),
oo 30 (.mv (.k (.d (.i .i64 0))))]) (
.block 0 (.loop ⟨[4, 28, 29, 30], [4], [], [], [], true⟩ (.seq (.region false [
oo 31 (.bin .lss (.t 30) (.t 29))]) (
.seq (.cond (.t 31) (
.skip) (.exit 0)) (
.seq (.block 1 (.seq (.region false [
oo 32 (.ia 10 (.t 28) (.t 30)),
oo 33 (.ld true 10 (.t 32)),
oo 6 (.zero (.agg [(.d (.i .i64 0)), (.d (.i .i64 0)), (.d (.i .i64 0)), (.d (.i .i64 0)), (.d (.i .i64 0)), (.d (.s [])), (.nil 4), (.d (.i .i64 0)), (.d (.i .i64 0)), (.nil 8)])),
⟨none, .st 10 (.t 6) (.t 33), none, 0⟩]) (
.seq (.region false [
oo 34 (.fa 2 (.t 6)),
oo 35 (.ld true 8 (.t 34)),
oo 36 (.call 192 [.t 35] 0 true),
oo 37 (.call 191 [.t 36] 0 true),
oo 38 (.len 0 (.t 37)),
oo 39 (.mv (.k (.d (.i .i64 0))))]) (
.block 2 (.loop ⟨[4, 6, 28, 29, 30, 37, 38, 39], [4], [], [], [], true⟩ (.seq (.region false [
oo 40 (.bin .lss (.t 39) (.t 38))]) (
.seq (.cond (.t 40) (
.skip) (.exit 2)) (
.seq (.block 3 (.seq (.region false [
oo 41 (.ia 2 (.t 37) (.t 39)),
oo 42 (.ld true 2 (.t 41)),
oo 8 (.zero (.agg [(.d (.i .i64 0)), (.d (.i .i64 0))])),
⟨none, .st 2 (.t 8) (.t 42), none, 0⟩]) (
.region false [
oo 43 (.mv (.t 4)),
oo 44 (.ld true 2 (.t 8)),
oo 45 (.fa 0 (.t 6)),
oo 46 (.ld false 1 (.t 45)),
oo 47 (.fa 1 (.t 6)),
oo 48 (.ld false 1 (.t 47)),
oo 49 (.build [(.d (.i .i64 0)), (.d (.i .i64 0))] [(0, 1, .t 46), (1, 1, .t 48)]),
oo 50 (.build [(.d (.i .i64 0)), (.d (.i .i64 0)), (.d (.i .i64 0)), (.d (.i .i64 0))] [(0, 2, .t 44), (2, 2, .t 49)]),
oo 51 (.bsl 4 1 [(.i .i64 0), (.i .i64 0), (.i .i64 0), (.i .i64 0)] [(0, .t 50)]),
oo 52 (.app 4 32 (.t 43) (.t 51)),
oo 4 (.mv (.t 52))]))) (
.region false [
oo 53 (.bin .add (.t 39) (.k (.d (.i .i64 1)))),
oo 39 (.mv (.t 53))]))))))))) (
.region false [
oo 54 (.bin .add (.t 30) (.k (.d (.i .i64 1)))),
oo 30 (.mv (.t 54))]))))))) (
.seq (.region false [
oo 55 (.mv (.t 4)),
oo 4 (.mv (.t 55))]) (
.ret)))), [.slot 4]⟩
def n172 : Notes := { anns := [⟨[4, 28, 29, 30], [4], [], [], [], true⟩, ⟨[4, 6, 28, 29, 30, 37, 38, 39], [4], [], [], [], true⟩], frz := [0, 0, 0, 1], rgs := [] }
def c173 : CFn := ⟨.seq (.region false [
oo 2 (.box (.t 0)),
oo 4 (.mv (.k (.d (.i .i64 0))))]) (
.seq (.seq (.region false [
oo 5 (.mv (.t 1)),
oo 6 (.bin .lss (.t 5) (.k (.d (.i .i64 0)))),
oo 7 (.mv (.t 6)),
⟨some 8, .mv (.t 1), (some (7, false)), 0⟩,
⟨some 9, .fa 1 (.t 2), (some (7, false)), 0⟩,
⟨some 10, .ld false 1 (.t 9), (some (7, false)), 0⟩,
⟨some 11, .len 0 (.t 10), (some (7, false)), 0⟩,
⟨some 12, .bin .geq (.t 8) (.t 11), (some (7, false)), 0⟩,
oo 13 (.pick (.t 7) (.k (.d (.b true))) (.t 12))]) (
.cond (.t 13) (
.seq (.region false [
oo 4 (.mv (.k (.d (.i .i64 0))))]) (
.ret)) (.skip))) (
.seq (.region true [
oo 14 (.fa 1 (.t 2)),
⟨some 15, .ld false 1 (.t 14), none, 1⟩,
oo 16 (.mv (.t 1)),
⟨some 17, .ia 3 (.t 15) (.t 16), none, 7⟩,
⟨some 18, .fa 1 (.t 17), none, 15⟩,
⟨some 19, .ld false 1 (.t 18), none, 31⟩,
⟨some 20, .len 0 (.t 19), none, 63⟩,
oo 21 (.fa 1 (.t 2)),
⟨some 22, .ld false 1 (.t 21), none, 128⟩,
oo 23 (.mv (.t 1)),
⟨some 24, .ia 3 (.t 22) (.t 23), none, 896⟩,
⟨some 25, .fa 2 (.t 24), none, 1920⟩,
⟨some 26, .ld false 1 (.t 25), none, 3968⟩,
⟨some 27, .len 0 (.t 26), none, 8064⟩,
⟨some 28, .bin .add (.t 20) (.t 27), none, 16383⟩,
⟨some 4, .mv (.t 28), none, 32767⟩]) (
.ret))), [.slot 4]⟩
def n173 : Notes := { anns := [], frz := [], rgs := [] }
def c174 : CFn := ⟨.seq (.region false [
oo 3 (.box (.t 0)),
oo 6 (.mv (.k (.d (.b false))))]) (
.seq (.region false [
oo 7 (.mv (.t 1)),
oo 8 (.bin .geq (.t 7) (.k (.d (.i .i64 0)))),
oo 9 (.mv (.t 8)),
⟨some 10, .mv (.t 1), (some (9, true)), 0⟩,
⟨some 11, .fa 1 (.t 3), (some (9, true)), 0⟩,
⟨some 12, .ld false 1 (.t 11), (some (9, true)), 0⟩,
⟨some 13, .len 0 (.t 12), (some (9, true)), 0⟩,
⟨some 14, .bin .lss (.t 10) (.t 13), (some (9, true)), 0⟩,
oo 15 (.pick (.t 9) (.t 14) (.k (.d (.b false)))),
oo 16 (.mv (.t 15)),
⟨some 17, .mv (.t 2), (some (16, true)), 0⟩,
⟨some 18, .bin .geq (.t 17) (.k (.d (.i .i64 0))), (some (16, true)), 0⟩,
oo 19 (.pick (.t 16) (.t 18) (.k (.d (.b false)))),
oo 20 (.mv (.t 19)),
⟨some 21, .mv (.t 2), (some (20, true)), 0⟩,
⟨some 22, .fa 1 (.t 3), (some (20, true)), 0⟩,
⟨some 23, .ld false 1 (.t 22), (some (20, true)), 0⟩,
⟨some 24, .mv (.t 1), (some (20, true)), 0⟩,
⟨some 25, .ia 3 (.t 23) (.t 24), (some (20, true)), 0⟩,
⟨some 26, .fa 1 (.t 25), (some (20, true)), 0⟩,
⟨some 27, .ld false 1 (.t 26), (some (20, true)), 0⟩,
⟨some 28, .len 0 (.t 27), (some (20, true)), 0⟩,
⟨some 29, .bin .lss (.t 21) (.t 28), (some (20, true)), 0⟩,
oo 30 (.pick (.t 20) (.t 29) (.k (.d (.b false)))),
oo 6 (.mv (.t 30))]) (
.ret)), [.slot 6]⟩
def n174 : Notes := { anns := [], frz := [], rgs := [] }
def c175 : CFn := ⟨.seq (.region false [
oo 1 (.box (.t 0)),
oo 2 (.mv (.k (.nil 2)))]) (
.seq (.seq (.region false [
oo 5 (.fa 0 (.t 1)),
oo 6 (.ld false 1 (.t 5)),
oo 7 (.bin .eql (.t 6) (.k (.d (.i .i64 1))))]) (
.cond (.t 7) (
.seq (.region false [
oo 8 (.fa 5 (.t 1)),
oo 9 (.ld false 1 (.t 8)),
oo 10 (.fa 6 (.t 1)),
oo 11 (.ld false 1 (.t 10)),
oo 12 (.build [(.d (.i .i64 0)), (.d (.i .i64 0))] [(0, 1, .t 9), (1, 1, .t 11)]),
oo 13 (.bsl 2 1 [(.i .i64 0), (.i .i64 0)] [(0, .t 12)]),
oo 2 (.mv (.t 13))]) (
.ret)) (.skip))) (
.seq (.region false [
oo 3 (.mv (.k (.nil 2)))]) (
.seq (.seq (.region false [
oo 4 (.mv (.k (.d (.i .i64 0))))]) (
.block 0 (.loop ⟨[1, 3, 4], [3], [], [], [], true⟩ (.seq (.seq (.region false [
oo 14 (.mv (.t 4)),
oo 15 (.fa 7 (.t 1)),
oo 16 (.ld false 1 (.t 15)),
oo 17 (.len 0 (.t 16)),
oo 18 (.bin .lss (.t 14) (.t 17))]) (
.cond (.t 18) (
.skip) (.exit 0))) (
.seq (.block 1 (.region false [
oo 21 (.mv (.t 3)),
oo 22 (.fa 7 (.t 1)),
oo 23 (.ld false 1 (.t 22)),
oo 24 (.mv (.t 4)),
oo 25 (.ia 8 (.t 23) (.t 24)),
oo 26 (.ld true 8 (.t 25)),
oo 27 (.call 175 [.t 26] 0 true),
oo 28 (.app 2 16 (.t 21) (.t 27)),
oo 3 (.mv (.t 28))])) (
.region false [
oo 19 (.mv (.t 4)),
oo 20 (.bin .add (.t 19) (.k (.d (.i .i64 1)))),
oo 4 (.mv (.t 20))])))))) (
.seq (.region false [
oo 29 (.mv (.t 3)),
oo 2 (.mv (.t 29))]) (
.ret))))), [.slot 2]⟩
def n175 : Notes := { anns := [⟨[1, 3, 4], [3], [], [], [], true⟩], frz := [], rgs := [] }
def c181 : CFn := ⟨.seq (.region false [
oo 2 (.box (.t 0)),
oo 4 (.mv (.k (.d (.i .i64 0))))]) (
.seq (.region true [
oo 5 (.ld true 3 (.t 2)),
oo 6 (.mv (.t 1)),
⟨some 7, .call 197 [.t 5, .t 6] 0 true, none, 3⟩,
⟨some 8, .fl false 1 1 (.t 7), none, 7⟩,
⟨some 9, .len 0 (.t 8), none, 15⟩,
oo 10 (.ld true 3 (.t 2)),
oo 11 (.mv (.t 1)),
⟨some 12, .call 197 [.t 10, .t 11] 0 true, none, 103⟩,
⟨some 13, .fl false 2 1 (.t 12), none, 231⟩,
⟨some 14, .len 0 (.t 13), none, 487⟩,
⟨some 15, .bin .add (.t 9) (.t 14), none, 1023⟩,
⟨some 4, .mv (.t 15), none, 2047⟩]) (
.ret)), [.slot 4]⟩
def n181 : Notes := { anns := [], frz := [], rgs := [] }
def c182 : CFn := ⟨.seq (.region false [
oo 3 (.box (.t 0)),
oo 6 (.mv (.k (.d (.b false))))]) (
.seq (.region false [
oo 7 (.mv (.t 2)),
oo 8 (.bin .geq (.t 7) (.k (.d (.i .i64 0)))),
oo 9 (.mv (.t 8)),
⟨some 10, .mv (.t 2), (some (9, true)), 0⟩,
⟨some 11, .ld true 3 (.t 3), (some (9, true)), 0⟩,
⟨some 12, .mv (.t 1), (some (9, true)), 0⟩,
⟨some 13, .call 197 [.t 11, .t 12] 0 true, (some (9, true)), 0⟩,
⟨some 14, .fl false 1 1 (.t 13), (some (9, true)), 0⟩,
⟨some 15, .len 0 (.t 14), (some (9, true)), 0⟩,
⟨some 16, .bin .lss (.t 10) (.t 15), (some (9, true)), 0⟩,
oo 17 (.pick (.t 9) (.t 16) (.k (.d (.b false)))),
oo 6 (.mv (.t 17))]) (
.ret)), [.slot 6]⟩
def n182 : Notes := { anns := [], frz := [], rgs := [] }
def c183 : CFn := ⟨.seq (.region false [
oo 4 (.box (.t 1)),
oo 5 (.box (.t 2)),
oo 6 (.mv (.k (.nil 10)))]) (
.seq (.region false [
oo 7 (.mv (.k (.nil 10)))]) (
.seq (.region false [
oo 8 (.mv (.k (.nil 8)))]) (
.seq (.seq (.region false [
oo 9 (.mv (.k (.d (.i .i64 0))))]) (
.block 0 (.loop ⟨[0, 4, 5, 7, 8, 9], [8], [(7, 0)], [], [], true⟩ (.seq (.seq (.region false [
oo 15 (.mv (.t 9)),
oo 16 (.fa 1 (.t 5)),
oo 17 (.ld false 1 (.t 16)),
oo 18 (.len 0 (.t 17)),
oo 19 (.bin .leq (.t 15) (.t 18))]) (
.cond (.t 19) (
.skip) (.exit 0))) (
.seq (.block 1 (.seq (.region false [
oo 22 (.fa 0 (.t 5)),
oo 23 (.ld false 1 (.t 22)),
oo 10 (.mv (.t 23))]) (
.seq (.seq (.region false [
oo 24 (.mv (.t 9)),
oo 25 (.bin .gtr (.t 24) (.k (.d (.i .i64 0))))]) (
.cond (.t 25) (
.seq (.region false [
oo 26 (.fa 1 (.t 5)),
oo 27 (.ld false 1 (.t 26)),
oo 28 (.mv (.t 9)),
oo 29 (.bin .sub (.t 28) (.k (.d (.i .i64 1)))),
oo 30 (.ia 2 (.t 27) (.t 29)),
oo 31 (.fa 1 (.t 30)),
oo 32 (.ld false 1 (.t 31)),
oo 10 (.mv (.t 32))]) (
.seq (.region false [
oo 33 (.fa 1 (.t 5)),
oo 34 (.ld false 1 (.t 33)),
oo 35 (.mv (.t 9)),
oo 36 (.bin .sub (.t 35) (.k (.d (.i .i64 1)))),
oo 37 (.ia 2 (.t 34) (.t 36)),
oo 38 (.fa 0 (.t 37)),
oo 39 (.ld false 1 (.t 38))]) (
.cond (.t 39) (
.seq (.region false [
oo 40 (.mv (.t 8)),
oo 41 (.mv (.t 9)),
oo 42 (.build [(.d (.i .i64 0)), (.d (.i .i64 0)), (.d (.i .i64 0)), (.d (.s [])), (.nil 4), (.d (.i .i64 0)), (.d (.i .i64 0)), (.nil 8)] [(0, 1, (.k (.d (.i .i64 2)))), (5, 1, .t 41)]),
oo 43 (.bsl 8 1 [(.i .i64 0), (.i .i64 0), (.i .i64 0), (.s []), (.l 4 []), (.i .i64 0), (.i .i64 0), (.l 8 [])] [(0, .t 42)]),
oo 44 (.app 8 104 (.t 40) (.t 43)),
oo 8 (.mv (.t 44))]) (
.exit 1)) (.skip)))) (.skip))) (
.seq (.region false [
oo 11 (.mv (.k (.d (.i .i64 0))))]) (
.block 2 (.loop ⟨[0, 4, 5, 7, 8, 9, 10, 11], [8], [(7, 0)], [], [], true⟩ (.seq (.seq (.region false [
oo 45 (.mv (.t 11)),
oo 46 (.ld true 3 (.t 4)),
oo 47 (.mv (.t 10)),
oo 48 (.call 173 [.t 46, .t 47] 0 true),
oo 49 (.bin .lss (.t 45) (.t 48))]) (
.cond (.t 49) (
.skip) (.exit 2))) (
.seq (.block 3 (.seq (.region false [
oo 52 (.mv (.t 9)),
oo 53 (.bin .eql (.t 52) (.k (.d (.i .i64 0)))),
oo 54 (.ld true 3 (.t 4)),
oo 55 (.mv (.t 10)),
oo 56 (.mv (.t 11)),
oo 57 (.call 174 [.t 54, .t 55, .t 56] 0 true),
oo 58 (.eqb false (.t 53) (.t 57))]) (
.cond (.t 58) (
.region false [
oo 59 (.mv (.t 8)),
oo 60 (.mv (.t 9)),
oo 61 (.mv (.t 11)),
oo 62 (.call 189 [.t 60, .t 61] 0 true),
oo 63 (.bsl 8 1 [(.i .i64 0), (.i .i64 0), (.i .i64 0), (.s []), (.l 4 []), (.i .i64 0), (.i .i64 0), (.l 8 [])] [(0, .t 62)]),
oo 64 (.app 8 104 (.t 59) (.t 63)),
oo 8 (.mv (.t 64))]) (.region false [
oo 65 (.mv (.t 7)),
oo 66 (.mv (.t 9)),
oo 67 (.mv (.t 11)),
oo 68 (.build [(.d (.i .i64 0)), (.d (.i .i64 0)), (.d (.i .i64 0)), (.d (.i .i64 0)), (.d (.i .i64 0)), (.d (.s [])), (.nil 4), (.d (.i .i64 0)), (.d (.i .i64 0)), (.nil 8)] [(0, 1, .t 66), (1, 1, .t 67)]),
oo 69 (.bsa 10 1 [(.i .i64 0), (.i .i64 0), (.i .i64 0), (.i .i64 0), (.i .i64 0), (.s []), (.l 4 []), (.i .i64 0), (.i .i64 0), (.l 8 [])] [(0, .t 68)]),
oo 70 (.apa 10 120 (.t 65) (.t 69)),
oo 7 (.mv (.t 70))])))) (
.region false [
oo 50 (.mv (.t 11)),
oo 51 (.bin .add (.t 50) (.k (.d (.i .i64 1)))),
oo 11 (.mv (.t 51))]))))))))) (
.region false [
oo 20 (.mv (.t 9)),
oo 21 (.bin .add (.t 20) (.k (.d (.i .i64 1)))),
oo 9 (.mv (.t 21))])))))) (
.seq (.seq (.region false [
oo 12 (.mv (.k (.d (.i .i64 0))))]) (
.block 4 (.loop ⟨[0, 7, 8, 12], [], [], [], [], true⟩ (.seq (.seq (.region false [
oo 71 (.mv (.t 12)),
oo 72 (.mv (.t 7)),
oo 73 (.len 0 (.t 72)),
oo 74 (.bin .lss (.t 71) (.t 73))]) (
.cond (.t 74) (
.skip) (.exit 4))) (
.seq (.block 5 (.seq (.region false [
oo 77 (.mv (.t 0)),
oo 78 (.call 123 [.t 77, (.k (.d (.i .i64 5)))] 4 true),
oo 79 (.build [(.d (.i .i64 0)), (.d (.i .i64 0)), (.d (.s [])), (.nil 4)] [(0, 1, (.k (.d (.i .i64 1)))), (1, 1, .t 78)]),
oo 80 (.call 188 [.t 79] 0 true),
oo 13 (.zero (.agg [(.d (.i .i64 0)), (.d (.i .i64 0)), (.d (.i .i64 0)), (.d (.s [])), (.nil 4), (.d (.i .i64 0)), (.d (.i .i64 0)), (.nil 8)])),
⟨none, .st 8 (.t 13) (.t 80), none, 0⟩]) (
.seq (.seq (.region false [
oo 81 (.mv (.t 0)),
oo 82 (.call 123 [.t 81, (.k (.d (.i .i64 3)))] 4 true),
oo 14 (.mv (.t 82))]) (
.block 6 (.loop ⟨[0, 7, 8, 12, 13, 14], [], [], [], [(13, 4), (13, 7)], true⟩ (.seq (.seq (.region false [
oo 83 (.mv (.t 14)),
oo 84 (.bin .gtr (.t 83) (.k (.d (.i .i64 0)))),
oo 85 (.mv (.t 84)),
⟨some 86, .mv (.t 8), (some (85, true)), 0⟩,
⟨some 87, .len 0 (.t 86), (some (85, true)), 0⟩,
⟨some 88, .bin .gtr (.t 87) (.k (.d (.i .i64 0))), (some (85, true)), 0⟩,
oo 89 (.pick (.t 85) (.t 88) (.k (.d (.b false))))]) (
.cond (.t 89) (
.skip) (.exit 6))) (
.seq (.block 7 (.region true [
oo 92 (.bsl 1 4 [(.i .i64 0)] [(0, (.k (.d (.i .i64 4)))), (1, (.k (.d (.i .i64 7)))), (2, (.k (.d (.i .i64 13)))), (3, (.k (.d (.i .i64 14))))]),
oo 93 (.mv (.t 0)),
⟨some 94, .call 123 [.t 93, (.k (.d (.i .i64 4)))] 4 true, none, 2⟩,
⟨some 95, .ia 1 (.t 92) (.t 94), none, 7⟩,
⟨some 96, .ld false 1 (.t 95), none, 15⟩,
oo 97 (.ld true 8 (.t 13)),
oo 98 (.mv (.t 8)),
oo 99 (.mv (.t 0)),
oo 100 (.mv (.t 8)),
⟨some 101, .len 0 (.t 100), none, 256⟩,
⟨some 102, .call 123 [.t 99, .t 101] 4 true, none, 902⟩,
⟨some 103, .ia 8 (.t 98) (.t 102), none, 1990⟩,
⟨some 104, .ld true 8 (.t 103), none, 4038⟩,
⟨some 105, .bsl 8 2 [(.i .i64 0), (.i .i64 0), (.i .i64 0), (.s []), (.l 4 []), (.i .i64 0), (.i .i64 0), (.l 8 [])] [(0, .t 97), (1, .t 104)], none, 8166⟩,
⟨some 106, .build [(.d (.i .i64 0)), (.d (.i .i64 0)), (.d (.i .i64 0)), (.d (.s [])), (.nil 4), (.d (.i .i64 0)), (.d (.i .i64 0)), (.nil 8)] [(0, 1, .t 96), (7, 1, .t 105)], none, 16383⟩,
⟨none, .st 8 (.t 13) (.t 106), none, 32767⟩])) (
.region false [
oo 90 (.mv (.t 14)),
oo 91 (.bin .sub (.t 90) (.k (.d (.i .i64 1)))),
oo 14 (.mv (.t 91))])))))) (
.region false [
oo 107 (.mv (.t 7)),
oo 108 (.mv (.t 12)),
oo 109 (.ld true 8 (.t 13)),
oo 110 (.ia 10 (.t 107) (.t 108)),
oo 111 (.fa 2 (.t 110)),
⟨none, .st 8 (.t 111) (.t 109), none, 0⟩])))) (
.region false [
oo 75 (.mv (.t 12)),
oo 76 (.bin .add (.t 75) (.k (.d (.i .i64 1)))),
oo 12 (.mv (.t 76))])))))) (
.seq (.region false [
oo 112 (.mv (.t 7)),
oo 6 (.mv (.t 112))]) (
.ret)))))), [.slot 6]⟩
def n183 : Notes := { anns := [⟨[0, 4, 5, 7, 8, 9], [8], [(7, 0)], [], [], true⟩, ⟨[0, 4, 5, 7, 8, 9, 10, 11], [8], [(7, 0)], [], [], true⟩, ⟨[0, 7, 8, 12], [], [], [], [], true⟩, ⟨[0, 7, 8, 12, 13, 14], [], [], [], [(13, 4), (13, 7)], true⟩], frz := [0, 0, 0, 0, 0, 0, 0, 0, 0, 0, 0, 0, 0, 0, 0, 0, 0, 0, 0, 0, 0, 0, 0, 0, 0, 0, 0, 0, 0, 0, 0, 0, 0, 0, 0, 0, 0, 0, 0, 0, 0, 0, 0, 0, 0, 0, 0, 0, 0, 0, 0, 0, 0, 0, 0, 0, 0, 0, 0, 0, 0, 1, 1], rgs := [] }
def c184 : CFn := ⟨.seq (.region false [
oo 1 (.box (.t 0)),
oo 2 (.mv (.k (.d (.b false))))]) (
.seq (.seq (.region false [
oo 9 (.fa 0 (.t 1)),
oo 10 (.ld false 1 (.t 9)),
oo 11 (.call 198 [.t 10, (.k (.d (.i .i64 8)))] 0 true),
oo 12 (.un .not (.t 11)),
oo 13 (.mv (.t 12)),
⟨some 14, .fa 1 (.t 1), (some (13, false)), 0⟩,
⟨some 15, .ld false 1 (.t 14), (some (13, false)), 0⟩,
⟨some 16, .call 199 [.t 15, (.k (.d (.i .i64 8)))] 0 true, (some (13, false)), 0⟩,
⟨some 17, .un .not (.t 16), (some (13, false)), 0⟩,
oo 18 (.pick (.t 13) (.k (.d (.b true))) (.t 17)),
oo 19 (.mv (.t 18)),
⟨some 20, .fa 2 (.t 1), (some (19, false)), 0⟩,
⟨some 21, .ld false 1 (.t 20), (some (19, false)), 0⟩,
⟨some 22, .call 200 [.t 21, (.k (.d (.i .i64 16)))] 0 true, (some (19, false)), 0⟩,
⟨some 23, .un .not (.t 22), (some (19, false)), 0⟩,
oo 24 (.pick (.t 19) (.k (.d (.b true))) (.t 23))]) (
.cond (.t 24) (
.seq (.region false [
oo 2 (.mv (.k (.d (.b false))))]) (
.ret)) (.skip))) (
.seq (.region false [
oo 3 (.mv (.k (.nil 1)))]) (
.seq (.seq (.region false [
oo 25 (.fa 0 (.t 1)),
oo 26 (.ld false 1 (.t 25)),
oo 27 (.len 0 (.t 26)),
oo 28 (.mv (.k (.d (.i .i64 0))))]) (
.block 0 (.loop ⟨[1, 3, 26, 27, 28], [3], [], [], [], true⟩ (.seq (.region false [
oo 29 (.bin .lss (.t 28) (.t 27))]) (
.seq (.cond (.t 29) (
.skip) (.exit 0)) (
.seq (.block 1 (.seq (.region false [
oo 30 (.ia 3 (.t 26) (.t 28)),
oo 31 (.ld true 3 (.t 30)),
oo 5 (.zero (.agg [(.d (.s [])), (.d (.s [])), (.d (.b false))])),
⟨none, .st 3 (.t 5) (.t 31), none, 0⟩]) (
.region false [
oo 32 (.mv (.t 3)),
oo 33 (.fa 0 (.t 5)),
oo 34 (.ld false 1 (.t 33)),
oo 35 (.bsl 1 1 [(.s [])] [(0, .t 34)]),
oo 36 (.app 1 16 (.t 32) (.t 35)),
oo 3 (.mv (.t 36))]))) (
.region false [
oo 37 (.bin .add (.t 28) (.k (.d (.i .i64 1)))),
oo 28 (.mv (.t 37))]))))))) (
.seq (.seq (.region false [
oo 38 (.fa 1 (.t 1)),
oo 39 (.ld false 1 (.t 38)),
oo 40 (.len 0 (.t 39)),
oo 41 (.mv (.k (.d (.i .i64 0))))]) (
.block 2 (.loop ⟨[1, 3, 39, 40, 41], [3], [], [], [], true⟩ (.seq (.region false [
oo 42 (.bin .lss (.t 41) (.t 40))]) (
.seq (.cond (.t 42) (
.skip) (.exit 2)) (
.seq (.block 3 (.seq (.region false [
oo 43 (.ia 3 (.t 39) (.t 41)),
oo 44 (.ld true 3 (.t 43)),
oo 7 (.zero (.agg [(.d (.s [])), (.nil 1), (.nil 1)])),
⟨none, .st 3 (.t 7) (.t 44), none, 0⟩]) (
.seq (.region false [
oo 45 (.mv (.t 3)),
oo 46 (.fa 0 (.t 7)),
oo 47 (.ld false 1 (.t 46)),
oo 48 (.bsl 1 1 [(.s [])] [(0, .t 47)]),
oo 49 (.app 1 16 (.t 45) (.t 48)),
oo 3 (.mv (.t 49))]) (
.seq (.region false [
oo 50 (.fa 1 (.t 7)),
oo 51 (.ld false 1 (.t 50)),
oo 52 (.fa 2 (.t 7)),
oo 53 (.ld false 1 (.t 52)),
oo 54 (.bsl 1 2 [(.l 1 [])] [(0, .t 51), (1, .t 53)]),
oo 55 (.call 201 [.t 54] 0 true),
oo 8 (.mv (.t 55))]) (
.seq (.region false [
oo 56 (.mv (.t 8)),
oo 57 (.len 0 (.t 56)),
oo 58 (.bin .gtr (.t 57) (.k (.d (.i .i64 4)))),
oo 59 (.mv (.t 58)),
⟨some 60, .mv (.t 8), (some (59, false)), 0⟩,
⟨some 61, .call 202 [.t 60] 0 true, (some (59, false)), 0⟩,
⟨some 62, .un .not (.t 61), (some (59, false)), 0⟩,
oo 63 (.pick (.t 59) (.k (.d (.b true))) (.t 62))]) (
.cond (.t 63) (
.seq (.region false [
oo 2 (.mv (.k (.d (.b false))))]) (
.ret)) (.skip))))))) (
.region false [
oo 64 (.bin .add (.t 41) (.k (.d (.i .i64 1)))),
oo 41 (.mv (.t 64))]))))))) (
.seq (.region false [
oo 65 (.mv (.t 3)),
oo 66 (.call 202 [.t 65] 0 true),
oo 67 (.mv (.t 66)),
⟨some 68, .fa 2 (.t 1), (some (67, true)), 0⟩,
⟨some 69, .ld false 1 (.t 68), (some (67, true)), 0⟩,
⟨some 70, .mkf 204 [] [.t 1] true, (some (67, true)), 0⟩,
⟨some 71, .call 203 [.t 69, .t 70] 4 true, (some (67, true)), 0⟩,
⟨some 72, .un .not (.t 71), (some (67, true)), 0⟩,
oo 73 (.pick (.t 67) (.t 72) (.k (.d (.b false)))),
oo 2 (.mv (.t 73))]) (
.ret)))))), [.slot 2]⟩
def n184 : Notes := { anns := [⟨[1, 3, 26, 27, 28], [3], [], [], [], true⟩, ⟨[1, 3, 39, 40, 41], [3], [], [], [], true⟩], frz := [0, 0, 0, 0, 0, 0, 0, 0, 0, 0, 0, 0, 0, 0, 0, 0, 0, 0, 0, 0, 0, 0, 0, 0, 0, 0, 0, 0, 0, 0, 0, 0, 0, 0, 0, 0, 0, 0, 0, 0, 0, 0, 0, 0, 0, 0, 0, 0, 0, 0, 0, 0, 0, 0, 0, 0, 0, 0, 0, 0, 0, 0, 0, 0, 0, 0, 0, 0, 0, 0, 0, 0, 0, 0, 0, 1], rgs := [] }
def c185 : CFn := ⟨.seq (.region false [
oo 3 (.box (.t 1)),
oo 4 (.mv (.k (.d (.b false))))]) (
.seq (.region false [
oo 5 (.mv (.t 0)),
oo 6 (.mkf 206 [] [.t 3] true),
oo 7 (.call 203 [.t 5, .t 6] 4 true),
oo 8 (.un .not (.t 7)),
oo 4 (.mv (.t 8))]) (
.ret)), [.slot 4]⟩
def n185 : Notes := { anns := [], frz := [0, 0, 0, 1], rgs := [] }
def c186 : CFn := ⟨.seq (.region false [
oo 2 (.box (.t 0)),
oo 3 (.mv (.k (.d (.b false))))]) (
.seq (.region false [
oo 4 (.ld true 3 (.t 1)),
oo 5 (.ld true 3 (.t 2)),
oo 6 (.call 187 [.t 4, .t 5] 0 true),
oo 3 (.mv (.t 6))]) (
.ret)), [.slot 3]⟩
def n186 : Notes := { anns := [], frz := [], rgs := [] }
def c187 : CFn := ⟨.seq (.region false [
oo 2 (.box (.t 0)),
oo 3 (.box (.t 1)),
oo 4 (.mv (.k (.d (.b false))))]) (
.seq (.region false [
oo 7 (.ld true 3 (.t 2)),
oo 8 (.ld true 3 (.t 3)),
oo 9 (.call 207 [.t 7, .t 8] 4 true),
oo 5 (.zero (.d .nm)),
⟨none, .st 1 (.t 5) (.t 9), none, 0⟩]) (
.seq (.region false [
oo 10 (.fa 2 (.t 3)),
oo 11 (.ld false 1 (.t 10)),
oo 12 (.mkf 209 [] [.t 5, .t 3, .t 2] true),
oo 13 (.call 208 [.t 11, .t 12] 4 true),
oo 6 (.mv (.t 13))]) (
.seq (.region false [
oo 14 (.mv (.t 6)),
oo 15 (.mv (.t 14)),
⟨some 16, .ld false 1 (.t 5), (some (15, true)), 0⟩,
⟨some 17, .len 2 (.t 16), (some (15, true)), 0⟩,
⟨some 18, .bin .eql (.t 17) (.k (.d (.i .i64 0))), (some (15, true)), 0⟩,
oo 19 (.pick (.t 15) (.t 18) (.k (.d (.b false)))),
oo 4 (.mv (.t 19))]) (
.ret)))), [.slot 4]⟩
def n187 : Notes := { anns := [], frz := [0, 0, 0, 0, 0, 0, 0, 0, 0, 0, 1], rgs := [] }
def c188 : CFn := ⟨.seq (.region false [
oo 1 (.box (.t 0)),
oo 2 (.zero (.agg [(.d (.i .i64 0)), (.d (.i .i64 0)), (.d (.i .i64 0)), (.d (.s [])), (.nil 4), (.d (.i .i64 0)), (.d (.i .i64 0)), (.nil 8)]))]) (
.seq (.region false [
oo 3 (.ld true 4 (.t 1)),
oo 4 (.build [(.d (.i .i64 0)), (.d (.i .i64 0)), (.d (.i .i64 0)), (.d (.s [])), (.nil 4), (.d (.i .i64 0)), (.d (.i .i64 0)), (.nil 8)] [(0, 1, (.k (.d (.i .i64 0)))), (1, 4, .t 3)]),
⟨none, .st 8 (.t 2) (.t 4), none, 0⟩]) (
.ret)), [.cell 2 true 8]⟩
def n188 : Notes := { anns := [], frz := [], rgs := [] }
def c189 : CFn := ⟨.seq (.region false [
oo 4 (.zero (.agg [(.d (.i .i64 0)), (.d (.i .i64 0)), (.d (.i .i64 0)), (.d (.s [])), (.nil 4), (.d (.i .i64 0)), (.d (.i .i64 0)), (.nil 8)]))]) (
.seq (.region false [
oo 5 (.mv (.t 0)),
oo 6 (.mv (.t 1)),
oo 7 (.build [(.d (.i .i64 0)), (.d (.i .i64 0)), (.d (.i .i64 0)), (.d (.s [])), (.nil 4), (.d (.i .i64 0)), (.d (.i .i64 0)), (.nil 8)] [(0, 1, (.k (.d (.i .i64 1)))), (5, 1, .t 5), (6, 1, .t 6)]),
⟨none, .st 8 (.t 4) (.t 7), none, 0⟩]) (
.ret)), [.cell 4 true 8]⟩
def n189 : Notes := { anns := [], frz := [], rgs := [] }
def c190 : CFn := ⟨.seq (.region false [
oo 2 (.zero (.agg [(.d (.b false)), (.d (.i .i64 0))]))]) (
.seq (.region false [
oo 3 (.mv (.t 0)),
oo 4 (.build [(.d (.b false)), (.d (.i .i64 0))] [(0, 1, (.k (.d (.b true)))), (1, 1, .t 3)]),
⟨none, .st 2 (.t 2) (.t 4), none, 0⟩]) (
.ret)), [.cell 2 true 2]⟩
def n190 : Notes := { anns := [], frz := [], rgs := [] }
def c191 : CFn := ⟨.seq (.region false [
oo 2 (.mv (.k (.nil 2)))]) (
.seq (.region false [
oo 6 (.mkm),
oo 3 (.mv (.t 6))]) (
.seq (.seq (.region false [
oo 7 (.mv (.t 0)),
oo 8 (.len 0 (.t 7)),
oo 9 (.mv (.k (.d (.i .i64 0))))]) (
.block 0 (.loop ⟨[2, 3, 7, 8, 9], [2], [], [], [], true⟩ (.seq (.region false [
oo 10 (.bin .lss (.t 9) (.t 8))]) (
.seq (.cond (.t 10) (
.skip) (.exit 0)) (
.seq (.block 1 (.seq (.region false [
oo 11 (.ia 2 (.t 7) (.t 9)),
oo 12 (.ld true 2 (.t 11)),
oo 5 (.zero (.agg [(.d (.i .i64 0)), (.d (.i .i64 0))])),
⟨none, .st 2 (.t 5) (.t 12), none, 0⟩]) (
.seq (.seq (.region false [
oo 13 (.mv (.t 3)),
oo 14 (.ld true 2 (.t 5)),
oo 15 (.lk true [.i, .i] false (.d (.b false)) (.t 13) (.t 14)),
oo 16 (.un .not (.t 15))]) (
.cond (.t 16) (
.region false [
oo 17 (.mv (.t 2)),
oo 18 (.ld true 2 (.t 5)),
oo 19 (.bsl 2 1 [(.i .i64 0), (.i .i64 0)] [(0, .t 18)]),
oo 20 (.app 2 16 (.t 17) (.t 19)),
oo 2 (.mv (.t 20))]) (.skip))) (
.region false [
oo 21 (.mv (.t 3)),
oo 22 (.ld true 2 (.t 5)),
⟨none, .mu true [.i, .i] (.t 21) (.t 22) (.k (.d (.b true))), none, 0⟩])))) (
.region false [
oo 23 (.bin .add (.t 9) (.k (.d (.i .i64 1)))),
oo 9 (.mv (.t 23))]))))))) (
.seq (.region false [
oo 24 (.mv (.t 2)),
oo 2 (.mv (.t 24))]) (
.ret)))), [.slot 2]⟩
def n191 : Notes := { anns := [⟨[2, 3, 7, 8, 9], [2], [], [], [], true⟩], frz := [], rgs := [] }
def c192 : CFn := ⟨.seq (.region false [
oo 1 (.box (.t 0)),
oo 2 (.mv (.k (.nil 2)))]) (
.seq (.seq (.region false [
oo 5 (.fa 0 (.t 1)),
oo 6 (.ld false 1 (.t 5)),
oo 7 (.bin .eql (.t 6) (.k (.d (.i .i64 1))))]) (
.cond (.t 7) (
.region false [
oo 8 (.mv (.t 2)),
oo 9 (.fa 5 (.t 1)),
oo 10 (.ld false 1 (.t 9)),
oo 11 (.fa 6 (.t 1)),
oo 12 (.ld false 1 (.t 11)),
oo 13 (.build [(.d (.i .i64 0)), (.d (.i .i64 0))] [(0, 1, .t 10), (1, 1, .t 12)]),
oo 14 (.bsl 2 1 [(.i .i64 0), (.i .i64 0)] [(0, .t 13)]),
oo 15 (.app 2 16 (.t 8) (.t 14)),
oo 2 (.mv (.t 15))]) (.skip))) (
.seq (.seq (.region false [
oo 16 (.fa 7 (.t 1)),
oo 17 (.ld false 1 (.t 16)),
oo 18 (.len 0 (.t 17)),
oo 19 (.mv (.k (.d (.i .i64 0))))]) (
.block 0 (.loop ⟨[2, 17, 18, 19], [2], [], [], [], true⟩ (.seq (.region false [
oo 20 (.bin .lss (.t 19) (.t 18))]) (
.seq (.cond (.t 20) (
.skip) (.exit 0)) (
.seq (.block 1 (.seq (.region false [
oo 21 (.ia 8 (.t 17) (.t 19)),
oo 22 (.ld true 8 (.t 21)),
oo 4 (.zero (.agg [(.d (.i .i64 0)), (.d (.i .i64 0)), (.d (.i .i64 0)), (.d (.s [])), (.nil 4), (.d (.i .i64 0)), (.d (.i .i64 0)), (.nil 8)])),
⟨none, .st 8 (.t 4) (.t 22), none, 0⟩]) (
.region false [
oo 23 (.mv (.t 2)),
oo 24 (.ld true 8 (.t 4)),
oo 25 (.call 192 [.t 24] 0 true),
oo 26 (.app 2 16 (.t 23) (.t 25)),
oo 2 (.mv (.t 26))]))) (
.region false [
oo 27 (.bin .add (.t 19) (.k (.d (.i .i64 1)))),
oo 19 (.mv (.t 27))]))))))) (
.seq (.region false [
oo 28 (.mv (.t 2)),
oo 2 (.mv (.t 28))]) (
.ret)))), [.slot 2]⟩
def n192 : Notes := { anns := [⟨[2, 17, 18, 19], [2], [], [], [], true⟩], frz := [], rgs := [] }
def c197 : CFn := ⟨.seq (.region false [
oo 2 (.box (.t 0)),
oo 4 (.zero (.agg [(.d (.s [])), (.nil 1), (.nil 1)]))]) (
.seq (.seq (.region false [
oo 5 (.mv (.t 1)),
oo 6 (.bin .geq (.t 5) (.k (.d (.i .i64 0)))),
oo 7 (.mv (.t 6)),
⟨some 8, .mv (.t 1), (some (7, true)), 0⟩,
⟨some 9, .fa 1 (.t 2), (some (7, true)), 0⟩,
⟨some 10, .ld false 1 (.t 9), (some (7, true)), 0⟩,
⟨some 11, .len 0 (.t 10), (some (7, true)), 0⟩,
⟨some 12, .bin .lss (.t 8) (.t 11), (some (7, true)), 0⟩,
oo 13 (.pick (.t 7) (.t 12) (.k (.d (.b false))))]) (
.cond (.t 13) (
.region false [
oo 14 (.fa 1 (.t 2)),
oo 15 (.ld false 1 (.t 14)),
oo 16 (.mv (.t 1)),
oo 17 (.ia 3 (.t 15) (.t 16)),
oo 18 (.ld true 3 (.t 17)),
⟨none, .st 3 (.t 4) (.t 18), none, 0⟩]) (.skip))) (
.seq (.region false [
oo 19 (.ld true 3 (.t 4)),
⟨none, .st 3 (.t 4) (.t 19), none, 0⟩]) (
.ret))), [.cell 4 true 3]⟩
def n197 : Notes := { anns := [], frz := [], rgs := [] }
def c198 : CFn := ⟨.seq (.region false [
oo 4 (.mv (.k (.d (.b false))))]) (
.seq (.region false [
oo 5 (.mv (.t 0)),
oo 6 (.len 0 (.t 5)),
oo 7 (.bin .geq (.t 6) (.k (.d (.i .i64 1)))),
oo 8 (.mv (.t 7)),
⟨some 9, .mv (.t 0), (some (8, true)), 0⟩,
⟨some 10, .len 0 (.t 9), (some (8, true)), 0⟩,
⟨some 11, .mv (.t 1), (some (8, true)), 0⟩,
⟨some 12, .bin .leq (.t 10) (.t 11), (some (8, true)), 0⟩,
oo 13 (.pick (.t 8) (.t 12) (.k (.d (.b false)))),
oo 4 (.mv (.t 13))]) (
.ret)), [.slot 4]⟩
def n198 : Notes := { anns := [], frz := [], rgs := [] }
def c199 : CFn := ⟨.seq (.region false [
oo 4 (.mv (.k (.d (.b false))))]) (
.seq (.region false [
oo 5 (.mv (.t 0)),
oo 6 (.len 0 (.t 5)),
oo 7 (.bin .geq (.t 6) (.k (.d (.i .i64 1)))),
oo 8 (.mv (.t 7)),
⟨some 9, .mv (.t 0), (some (8, true)), 0⟩,
⟨some 10, .len 0 (.t 9), (some (8, true)), 0⟩,
⟨some 11, .mv (.t 1), (some (8, true)), 0⟩,
⟨some 12, .bin .leq (.t 10) (.t 11), (some (8, true)), 0⟩,
oo 13 (.pick (.t 8) (.t 12) (.k (.d (.b false)))),
oo 4 (.mv (.t 13))]) (
.ret)), [.slot 4]⟩
def n199 : Notes := { anns := [], frz := [], rgs := [] }
def c200 : CFn := ⟨.seq (.region false [
oo 4 (.mv (.k (.d (.b false))))]) (
.seq (.region false [
oo 5 (.mv (.t 0)),
oo 6 (.len 0 (.t 5)),
oo 7 (.bin .geq (.t 6) (.k (.d (.i .i64 1)))),
oo 8 (.mv (.t 7)),
⟨some 9, .mv (.t 0), (some (8, true)), 0⟩,
⟨some 10, .len 0 (.t 9), (some (8, true)), 0⟩,
⟨some 11, .mv (.t 1), (some (8, true)), 0⟩,
⟨some 12, .bin .leq (.t 10) (.t 11), (some (8, true)), 0⟩,
oo 13 (.pick (.t 8) (.t 12) (.k (.d (.b false)))),
oo 4 (.mv (.t 13))]) (
.ret)), [.slot 4]⟩
def n200 : Notes := { anns := [], frz := [], rgs := [] }
def c201 : CFn := ⟨.seq (.region false [
oo 2 (.mv (.k (.nil 1)))]) (
.seq (.region false [
oo 3 (.mv (.k (.d (.i .i64 0))))]) (
.seq (.seq (.region false [
oo 9 (.mv (.t 0)),
oo 10 (.len 0 (.t 9)),
oo 11 (.mv (.k (.d (.i .i64 0))))]) (
.block 0 (.loop ⟨[0, 3, 9, 10, 11], [], [], [], [], false⟩ (.seq (.region false [
oo 12 (.bin .lss (.t 11) (.t 10))]) (
.seq (.cond (.t 12) (
.skip) (.exit 0)) (
.seq (.block 1 (.seq (.region false [
oo 13 (.ia 1 (.t 9) (.t 11)),
oo 14 (.ld false 1 (.t 13)),
oo 5 (.mv (.t 14))]) (
.seq (.region false [
oo 15 (.mv (.t 3)),
oo 16 (.mv (.t 5)),
oo 17 (.len 0 (.t 16)),
oo 18 (.bin .add (.t 15) (.t 17)),
oo 3 (.mv (.t 18))]) (
.seq (.region false [
oo 19 (.mv (.t 3)),
oo 20 (.bin .lss (.t 19) (.k (.d (.i .i64 0))))]) (
.cond (.t 20) (
.region false [
oo 21 (.die),
⟨none, .die, none, 0⟩]) (.skip)))))) (
.region false [
oo 22 (.bin .add (.t 11) (.k (.d (.i .i64 1)))),
oo 11 (.mv (.t 22))]))))))) (
.seq (.region false [
oo 23 (.mv (.t 3)),
oo 24 (.callr 216 [(.k (.nil 1)), (.t 23)] 4),
oo 6 (.mv (.t 24))]) (
.seq (.seq (.region false [
oo 25 (.mv (.t 0)),
oo 26 (.len 0 (.t 25)),
oo 27 (.mv (.k (.d (.i .i64 0))))]) (
.block 2 (.loop ⟨[6, 25, 26, 27], [], [], [], [], false⟩ (.seq (.region false [
oo 28 (.bin .lss (.t 27) (.t 26))]) (
.seq (.cond (.t 28) (
.skip) (.exit 2)) (
.seq (.block 3 (.seq (.region false [
oo 29 (.ia 1 (.t 25) (.t 27)),
oo 30 (.ld false 1 (.t 29)),
oo 8 (.mv (.t 30))]) (
.region false [
oo 31 (.mv (.t 6)),
oo 32 (.mv (.t 8)),
oo 33 (.apa 1 16 (.t 31) (.t 32)),
oo 6 (.mv (.t 33))]))) (
.region false [
oo 34 (.bin .add (.t 27) (.k (.d (.i .i64 1)))),
oo 27 (.mv (.t 34))]))))))) (
.seq (.region false [
oo 35 (.mv (.t 6)),
oo 2 (.mv (.t 35))]) (
.ret)))))), [.slot 2]⟩
def n201 : Notes := { anns := [⟨[0, 3, 9, 10, 11], [], [], [], [], false⟩, ⟨[6, 25, 26, 27], [], [], [], [], false⟩], frz := [0, 0, 0, 0, 0, 0, 0, 0, 0, 0, 0, 0, 0, 0, 0, 0, 0, 0, 0, 0, 0, 3, 0, 0, 0, 0, 0, 0, 0, 0, 0, 0, 1], rgs := [] }
def c202 : CFn := ⟨.seq (.region false [
oo 2 (.mv (.k (.d (.b false))))]) (
.seq (.region false [
oo 3 (.mv (.t 0)),
oo 4 (.call 217 [.t 3] 0 true),
oo 5 (.mv (.t 4)),
⟨some 6, .mv (.t 0), (some (5, true)), 0⟩,
⟨some 7, .call 218 [.t 6, (.k (.d (.f 219 [] [])))] 4 true, (some (5, true)), 0⟩,
⟨some 8, .un .not (.t 7), (some (5, true)), 0⟩,
oo 9 (.pick (.t 5) (.t 8) (.k (.d (.b false)))),
oo 2 (.mv (.t 9))]) (
.ret)), [.slot 2]⟩
def n202 : Notes := { anns := [], frz := [], rgs := [] }
def c203 : CFn := ⟨.seq (.region false [
oo 4 (.mv (.k (.d (.b false))))]) (
.seq (.region false [
oo 5 (.mv (.t 0)),
oo 6 (.mv (.t 1)),
oo 7 (.call 221 [.t 5, .t 6] 4 true),
oo 8 (.bin .geq (.t 7) (.k (.d (.i .i64 0)))),
oo 4 (.mv (.t 8))]) (
.ret)), [.slot 4]⟩
def n203 : Notes := { anns := [], frz := [], rgs := [] }
def c204 : CFn := ⟨.seq (.region false [
oo 2 (.box (.t 0)),
oo 3 (.mv (.k (.d (.b false))))]) (
.seq (.region false [
oo 4 (.ld true 3 (.t 1)),
oo 5 (.ld true 3 (.t 2)),
oo 6 (.call 205 [.t 4, .t 5] 0 true),
oo 7 (.un .not (.t 6)),
oo 3 (.mv (.t 7))]) (
.ret)), [.slot 3]⟩
def n204 : Notes := { anns := [], frz := [], rgs := [] }
def c205 : CFn := ⟨.seq (.region false [
oo 2 (.box (.t 0)),
oo 3 (.box (.t 1)),
oo 4 (.mv (.k (.d (.b false))))]) (
.seq (.region false [
oo 5 (.fa 0 (.t 3)),
oo 6 (.ld false 1 (.t 5)),
oo 7 (.bin .geq (.t 6) (.k (.d (.i .i64 0)))),
oo 8 (.mv (.t 7)),
⟨some 9, .fa 0 (.t 3), (some (8, true)), 0⟩,
⟨some 10, .ld false 1 (.t 9), (some (8, true)), 0⟩,
⟨some 11, .fa 1 (.t 2), (some (8, true)), 0⟩,
⟨some 12, .ld false 1 (.t 11), (some (8, true)), 0⟩,
⟨some 13, .len 0 (.t 12), (some (8, true)), 0⟩,
⟨some 14, .bin .lss (.t 10) (.t 13), (some (8, true)), 0⟩,
oo 15 (.pick (.t 8) (.t 14) (.k (.d (.b false)))),
oo 16 (.mv (.t 15)),
⟨some 17, .fa 1 (.t 3), (some (16, true)), 0⟩,
⟨some 18, .ld false 1 (.t 17), (some (16, true)), 0⟩,
⟨some 19, .len 0 (.t 18), (some (16, true)), 0⟩,
⟨some 20, .bin .leq (.t 19) (.k (.d (.i .i64 5))), (some (16, true)), 0⟩,
oo 21 (.pick (.t 16) (.t 20) (.k (.d (.b false)))),
oo 22 (.mv (.t 21)),
⟨some 23, .fa 1 (.t 3), (some (22, true)), 0⟩,
⟨some 24, .ld false 1 (.t 23), (some (22, true)), 0⟩,
⟨some 25, .mkf 223 [] [.t 2] true, (some (22, true)), 0⟩,
⟨some 26, .call 222 [.t 24, .t 25] 4 true, (some (22, true)), 0⟩,
⟨some 27, .un .not (.t 26), (some (22, true)), 0⟩,
oo 28 (.pick (.t 22) (.t 27) (.k (.d (.b false)))),
oo 4 (.mv (.t 28))]) (
.ret)), [.slot 4]⟩
def n205 : Notes := { anns := [], frz := [0, 0, 0, 0, 0, 0, 0, 0, 0, 0, 0, 0, 0, 0, 0, 0, 0, 0, 0, 0, 0, 0, 0, 1], rgs := [] }
def c206 : CFn := ⟨.seq (.region false [
oo 2 (.box (.t 0)),
oo 3 (.mv (.k (.d (.b false))))]) (
.seq (.region false [
oo 4 (.ld false 1 (.t 1)),
oo 5 (.ld true 3 (.t 2)),
oo 6 (.callv (.t 4) [.t 5] 4 true),
oo 7 (.un .not (.t 6)),
oo 3 (.mv (.t 7))]) (
.ret)), [.slot 3]⟩
def n206 : Notes := { anns := [], frz := [], rgs := [] }
def c207 : CFn := ⟨.seq (.region false [
oo 2 (.box (.t 0)),
oo 3 (.box (.t 1)),
oo 4 (.mv (.k (.d .nm)))]) (
.seq (.region false [
oo 13 (.mkm),
oo 5 (.mv (.t 13))]) (
.seq (.seq (.region false [
oo 14 (.fa 1 (.t 3)),
oo 15 (.ld false 1 (.t 14)),
oo 16 (.len 0 (.t 15)),
oo 17 (.bin .add (.t 16) (.k (.d (.i .i64 1)))),
oo 18 (.mv (.k (.d (.i .i64 0))))]) (
.block 0 (.loop ⟨[2, 3, 5, 17, 18], [], [], [], [], true⟩ (.seq (.region false [
oo 19 (.bin .lss (.t 18) (.t 17))]) (
.seq (.cond (.t 19) (
.skip) (.exit 0)) (
.seq (.block 1 (.seq (.region false [
oo 20 (.mv (.t 18)),
oo 6 (.mv (.t 20))]) (
.seq (.region false [
oo 22 (.ld true 3 (.t 3)),
oo 23 (.mv (.t 6)),
oo 24 (.call 225 [.t 22, .t 23] 0 true),
oo 21 (.mv (.t 24)),
oo 25 (.ext (.t 21) 0),
oo 26 (.ext (.t 21) 1),
oo 7 (.mv (.t 25)),
oo 8 (.mv (.t 26))]) (
.seq (.region false [
oo 27 (.ld true 3 (.t 2)),
oo 28 (.mv (.t 7)),
oo 29 (.call 181 [.t 27, .t 28] 0 true),
oo 30 (.mv (.k (.d (.i .i64 0))))]) (
.block 2 (.loop ⟨[2, 3, 5, 6, 17, 18, 29, 30], [], [], [], [], true⟩ (.seq (.region false [
oo 31 (.bin .lss (.t 30) (.t 29))]) (
.seq (.cond (.t 31) (
.skip) (.exit 2)) (
.seq (.block 3 (.seq (.region false [
oo 32 (.mv (.t 30)),
oo 9 (.mv (.t 32))]) (
.seq (.region false [
oo 33 (.mv (.t 6)),
oo 34 (.mv (.t 9)),
oo 35 (.build [(.d (.i .i64 0)), (.d (.i .i64 0))] [(0, 1, .t 33), (1, 1, .t 34)]),
oo 10 (.zero (.agg [(.d (.i .i64 0)), (.d (.i .i64 0))])),
⟨none, .st 2 (.t 10) (.t 35), none, 0⟩]) (
.seq (.region false [
oo 37 (.ld true 3 (.t 3)),
oo 38 (.mv (.t 6)),
oo 39 (.call 225 [.t 37, .t 38] 0 true),
oo 36 (.mv (.t 39)),
oo 40 (.ext (.t 36) 0),
oo 41 (.ext (.t 36) 1),
oo 11 (.mv (.t 40)),
oo 12 (.mv (.t 41))]) (
.seq (.region false [
oo 42 (.mv (.t 12)),
oo 43 (.mv (.t 42)),
⟨some 44, .ld true 3 (.t 2), (some (43, true)), 0⟩,
⟨some 45, .ld true 3 (.t 3), (some (43, true)), 0⟩,
⟨some 46, .ld true 2 (.t 10), (some (43, true)), 0⟩,
⟨some 47, .call 214 [.t 44, .t 45, .t 46] 0 true, (some (43, true)), 0⟩,
⟨some 48, .un .not (.t 47), (some (43, true)), 0⟩,
oo 49 (.pick (.t 43) (.t 48) (.k (.d (.b false))))]) (
.cond (.t 49) (
.region false [
oo 50 (.mv (.t 5)),
oo 51 (.ld true 2 (.t 10)),
⟨none, .mu true [.i, .i] (.t 50) (.t 51) (.k (.d (.b true))), none, 0⟩]) (.skip))))))) (
.region false [
oo 52 (.bin .add (.t 30) (.k (.d (.i .i64 1)))),
oo 30 (.mv (.t 52))])))))))))) (
.region false [
oo 53 (.bin .add (.t 18) (.k (.d (.i .i64 1)))),
oo 18 (.mv (.t 53))]))))))) (
.seq (.region false [
oo 54 (.mv (.t 5)),
oo 4 (.mv (.t 54))]) (
.ret)))), [.slot 4]⟩
def n207 : Notes := { anns := [⟨[2, 3, 5, 17, 18], [], [], [], [], true⟩, ⟨[2, 3, 5, 6, 17, 18, 29, 30], [], [], [], [], true⟩], frz := [], rgs := [] }
def c208 : CFn := ⟨.seq (.region false [
oo 3 (.box (.t 1)),
oo 4 (.mv (.k (.d (.b false))))]) (
.seq (.region false [
oo 5 (.mv (.t 0)),
oo 6 (.mkf 227 [] [.t 3] true),
oo 7 (.call 226 [.t 5, .t 6] 4 true),
oo 8 (.un .not (.t 7)),
oo 4 (.mv (.t 8))]) (
.ret)), [.slot 4]⟩
def n208 : Notes := { anns := [], frz := [0, 0, 0, 1], rgs := [] }
def c209 : CFn := ⟨.seq (.region false [
oo 4 (.box (.t 0)),
oo 5 (.mv (.k (.d (.b false))))]) (
.seq (.region false [
oo 8 (.fa 0 (.t 4)),
oo 9 (.ld false 1 (.t 8)),
oo 10 (.fa 1 (.t 4)),
oo 11 (.ld false 1 (.t 10)),
oo 12 (.build [(.d (.i .i64 0)), (.d (.i .i64 0))] [(0, 1, .t 9), (1, 1, .t 11)]),
oo 6 (.zero (.agg [(.d (.i .i64 0)), (.d (.i .i64 0))])),
⟨none, .st 2 (.t 6) (.t 12), none, 0⟩]) (
.seq (.region false [
oo 13 (.ld false 1 (.t 1)),
oo 14 (.ld true 2 (.t 6)),
oo 15 (.lk true [.i, .i] false (.d (.b false)) (.t 13) (.t 14)),
oo 7 (.mv (.t 15))]) (
.seq (.region false [
oo 16 (.ld false 1 (.t 1)),
oo 17 (.ld true 2 (.t 6)),
⟨none, .del true [.i, .i] (.t 16) (.t 17), none, 0⟩]) (
.seq (.region false [
oo 18 (.mv (.t 7)),
oo 19 (.mv (.t 18)),
⟨some 20, .fa 2 (.t 4), (some (19, true)), 0⟩,
⟨some 21, .ld true 8 (.t 20), (some (19, true)), 0⟩,
⟨some 22, .call 210 [.t 21] 0 true, (some (19, true)), 0⟩,
oo 23 (.pick (.t 19) (.t 22) (.k (.d (.b false)))),
oo 24 (.mv (.t 23)),
⟨some 25, .ld true 3 (.t 2), (some (24, true)), 0⟩,
⟨some 26, .fa 2 (.t 4), (some (24, true)), 0⟩,
⟨some 27, .ld true 8 (.t 26), (some (24, true)), 0⟩,
⟨some 28, .call 211 [.t 25, .t 27] 0 true, (some (24, true)), 0⟩,
oo 29 (.pick (.t 24) (.t 28) (.k (.d (.b false)))),
oo 30 (.mv (.t 29)),
⟨some 31, .fa 2 (.t 4), (some (30, true)), 0⟩,
⟨some 32, .ld true 8 (.t 31), (some (30, true)), 0⟩,
⟨some 33, .call 192 [.t 32] 0 true, (some (30, true)), 0⟩,
⟨some 34, .mkf 213 [] [.t 3, .t 2] true, (some (30, true)), 0⟩,
⟨some 35, .call 212 [.t 33, .t 34] 4 true, (some (30, true)), 0⟩,
oo 36 (.pick (.t 30) (.t 35) (.k (.d (.b false)))),
oo 5 (.mv (.t 36))]) (
.ret))))), [.slot 5]⟩
def n209 : Notes := { anns := [], frz := [0, 0, 0, 0, 0, 0, 0, 0, 0, 0, 0, 0, 0, 0, 0, 0, 0, 0, 0, 0, 0, 0, 0, 0, 0, 0, 0, 0, 0, 0, 0, 0, 1], rgs := [] }
def c210 : CFn := ⟨.seq (.region false [
oo 1 (.box (.t 0)),
oo 2 (.mv (.k (.d (.b false))))]) (
.seq (.region false [
oo 3 (.ld true 8 (.t 1)),
oo 4 (.call 228 [.t 3, (.k (.d (.i .i64 12)))] 0 true),
oo 2 (.mv (.t 4))]) (
.ret)), [.slot 2]⟩
def n210 : Notes := { anns := [], frz := [], rgs := [] }
def c211 : CFn := ⟨.seq (.region false [
oo 2 (.box (.t 0)),
oo 3 (.box (.t 1)),
oo 4 (.mv (.k (.d (.b false))))]) (
.seq (.seq (.region false [
oo 5 (.fa 0 (.t 3)),
oo 6 (.ld false 1 (.t 5)),
oo 7 (.bin .eql (.t 6) (.k (.d (.i .i64 2)))),
oo 8 (.mv (.t 7)),
⟨some 9, .fa 0 (.t 3), (some (8, false)), 0⟩,
⟨some 10, .ld false 1 (.t 9), (some (8, false)), 0⟩,
⟨some 11, .bin .eql (.t 10) (.k (.d (.i .i64 3))), (some (8, false)), 0⟩,
oo 12 (.pick (.t 8) (.k (.d (.b true))) (.t 11)),
oo 13 (.mv (.t 12)),
⟨some 14, .fa 5 (.t 3), (some (13, true)), 0⟩,
⟨some 15, .ld false 1 (.t 14), (some (13, true)), 0⟩,
⟨some 16, .bin .lss (.t 15) (.k (.d (.i .i64 1))), (some (13, true)), 0⟩,
⟨some 17, .mv (.t 16), (some (13, true)), 0⟩,
⟨some 18, .fa 5 (.t 3), (some (17, false)), 0⟩,
⟨some 19, .ld false 1 (.t 18), (some (17, false)), 0⟩,
⟨some 20, .fa 1 (.t 2), (some (17, false)), 0⟩,
⟨some 21, .ld false 1 (.t 20), (some (17, false)), 0⟩,
⟨some 22, .len 0 (.t 21), (some (17, false)), 0⟩,
⟨some 23, .bin .gtr (.t 19) (.t 22), (some (17, false)), 0⟩,
⟨some 24, .pick (.t 17) (.k (.d (.b true))) (.t 23), (some (13, true)), 0⟩,
⟨some 25, .mv (.t 24), (some (13, true)), 0⟩,
⟨some 26, .fa 1 (.t 2), (some (25, false)), 0⟩,
⟨some 27, .ld false 1 (.t 26), (some (25, false)), 0⟩,
⟨some 28, .fa 5 (.t 3), (some (25, false)), 0⟩,
⟨some 29, .ld false 1 (.t 28), (some (25, false)), 0⟩,
⟨some 30, .bin .sub (.t 29) (.k (.d (.i .i64 1))), (some (25, false)), 0⟩,
⟨some 31, .ia 2 (.t 27) (.t 30), (some (25, false)), 0⟩,
⟨some 32, .fa 0 (.t 31), (some (25, false)), 0⟩,
⟨some 33, .ld false 1 (.t 32), (some (25, false)), 0⟩,
⟨some 34, .un .not (.t 33), (some (25, false)), 0⟩,
⟨some 35, .pick (.t 25) (.k (.d (.b true))) (.t 34), (some (13, true)), 0⟩,
oo 36 (.pick (.t 13) (.t 35) (.k (.d (.b false))))]) (
.cond (.t 36) (
.seq (.region false [
oo 4 (.mv (.k (.d (.b false))))]) (
.ret)) (.skip))) (
.seq (.region false [
oo 37 (.fa 7 (.t 3)),
oo 38 (.ld false 1 (.t 37)),
oo 39 (.mkf 230 [] [.t 2] true),
oo 40 (.call 229 [.t 38, .t 39] 4 true),
oo 41 (.un .not (.t 40)),
oo 4 (.mv (.t 41))]) (
.ret))), [.slot 4]⟩
def n211 : Notes := { anns := [], frz := [0, 0, 0, 0, 0, 0, 0, 0, 0, 0, 0, 0, 0, 0, 0, 0, 0, 0, 0, 0, 0, 0, 0, 0, 0, 0, 0, 0, 0, 0, 0, 0, 0, 0, 0, 0, 0, 0, 1], rgs := [] }
def c212 : CFn := ⟨.seq (.region false [
oo 3 (.box (.t 1)),
oo 4 (.mv (.k (.d (.b false))))]) (
.seq (.region false [
oo 5 (.mv (.t 0)),
oo 6 (.mkf 232 [] [.t 3] true),
oo 7 (.call 231 [.t 5, .t 6] 4 true),
oo 8 (.un .not (.t 7)),
oo 4 (.mv (.t 8))]) (
.ret)), [.slot 4]⟩
def n212 : Notes := { anns := [], frz := [0, 0, 0, 1], rgs := [] }
def c213 : CFn := ⟨.seq (.region false [
oo 3 (.box (.t 0)),
oo 4 (.mv (.k (.d (.b false))))]) (
.seq (.region false [
oo 5 (.ld true 3 (.t 1)),
oo 6 (.ld true 3 (.t 2)),
oo 7 (.ld true 2 (.t 3)),
oo 8 (.call 214 [.t 5, .t 6, .t 7] 0 true),
oo 4 (.mv (.t 8))]) (
.ret)), [.slot 4]⟩
def n213 : Notes := { anns := [], frz := [], rgs := [] }
def c214 : CFn := ⟨.seq (.region false [
oo 3 (.box (.t 0)),
oo 4 (.box (.t 1)),
oo 5 (.box (.t 2)),
oo 6 (.mv (.k (.d (.b false))))]) (
.seq (.region false [
oo 10 (.ld true 3 (.t 4)),
oo 11 (.iaa 2 1 (.t 5) (.k (.d (.i .i64 0)))),
oo 12 (.ld false 1 (.t 11)),
oo 13 (.call 225 [.t 10, .t 12] 0 true),
oo 9 (.mv (.t 13)),
oo 14 (.ext (.t 9) 0),
oo 15 (.ext (.t 9) 1),
oo 7 (.mv (.t 14)),
oo 8 (.mv (.t 15))]) (
.seq (.region true [
oo 16 (.mv (.t 8)),
⟨some 17, .mv (.t 16), none, 1⟩,
⟨some 18, .iaa 2 1 (.t 5) (.k (.d (.i .i64 1))), (some (17, true)), 3⟩,
⟨some 19, .ld false 1 (.t 18), (some (17, true)), 7⟩,
⟨some 20, .bin .geq (.t 19) (.k (.d (.i .i64 0))), (some (17, true)), 15⟩,
⟨some 21, .pick (.t 17) (.t 20) (.k (.d (.b false))), none, 31⟩,
⟨some 22, .mv (.t 21), none, 63⟩,
⟨some 23, .iaa 2 1 (.t 5) (.k (.d (.i .i64 1))), (some (22, true)), 127⟩,
⟨some 24, .ld false 1 (.t 23), (some (22, true)), 255⟩,
⟨some 25, .ld true 3 (.t 3), (some (22, true)), 127⟩,
⟨some 26, .mv (.t 7), (some (22, true)), 127⟩,
⟨some 27, .call 181 [.t 25, .t 26] 0 true, (some (22, true)), 1663⟩,
⟨some 28, .bin .lss (.t 24) (.t 27), (some (22, true)), 4095⟩,
⟨some 29, .pick (.t 22) (.t 28) (.k (.d (.b false))), none, 8191⟩,
⟨some 30, .mv (.t 29), none, 16383⟩,
⟨some 31, .ld true 3 (.t 3), (some (30, true)), 32767⟩,
⟨some 32, .mv (.t 7), (some (30, true)), 32767⟩,
⟨some 33, .iaa 2 1 (.t 5) (.k (.d (.i .i64 1))), (some (30, true)), 32767⟩,
⟨some 34, .ld false 1 (.t 33), (some (30, true)), 163839⟩,
⟨some 35, .call 182 [.t 31, .t 32, .t 34] 0 true, (some (30, true)), 524287⟩,
⟨some 36, .iaa 2 1 (.t 5) (.k (.d (.i .i64 0))), (some (30, true)), 32767⟩,
⟨some 37, .ld false 1 (.t 36), (some (30, true)), 1081343⟩,
⟨some 38, .bin .eql (.t 37) (.k (.d (.i .i64 0))), (some (30, true)), 3178495⟩,
⟨some 39, .eqb false (.t 35) (.t 38), (some (30, true)), 8388607⟩,
⟨some 40, .pick (.t 30) (.t 39) (.k (.d (.b false))), none, 16777215⟩,
⟨some 6, .mv (.t 40), none, 33554431⟩]) (
.ret))), [.slot 6]⟩
def n214 : Notes := { anns := [], frz := [], rgs := [] }
def c216 : CFn := ⟨.seq (.region false [
oo 4 (.mv (.k (.nil 1)))]) (
.seq (.seq (.region false [
oo 5 (.mv (.t 1)),
oo 6 (.bin .lss (.t 5) (.k (.d (.i .i64 0))))]) (
.cond (.t 6) (
.region false [
oo 7 (.die),
⟨none, .die, none, 0⟩]) (.skip))) (
.seq (.seq (.region false [
oo 8 (.mv (.t 1)),
oo 9 (.mv (.t 0)),
oo 10 (.capn (.t 9)),
oo 11 (.mv (.t 0)),
oo 12 (.len 0 (.t 11)),
oo 13 (.bin .sub (.t 10) (.t 12)),
oo 14 (.bin .sub (.t 8) (.t 13)),
oo 1 (.mv (.t 14))]) (
.seq (.region false [
oo 15 (.mv (.t 1)),
oo 16 (.bin .gtr (.t 15) (.k (.d (.i .i64 0))))]) (
.cond (.t 16) (
.region false [
oo 17 (.mv (.t 0)),
oo 18 (.mv (.t 0)),
oo 19 (.capn (.t 18)),
oo 20 (.slc 1 (.t 17) none (some (.t 19))),
oo 21 (.mv (.t 1)),
oo 22 (.apz 1 16 [(.s [])] (.t 20) (.t 21)),
oo 23 (.mv (.t 0)),
oo 24 (.len 0 (.t 23)),
oo 25 (.slc 1 (.t 22) none (some (.t 24))),
oo 0 (.mv (.t 25))]) (.skip)))) (
.seq (.region false [
oo 26 (.mv (.t 0)),
oo 4 (.mv (.t 26))]) (
.ret)))), [.raw 4]⟩
def n216 : Notes := { anns := [], frz := [0, 0, 0, 0, 0, 0, 0, 0, 0, 0, 0, 0, 0, 0, 0, 0, 0, 0, 0, 0, 1], rgs := [], raw := true }
def c217 : CFn := ⟨.seq (.region false [
oo 2 (.mv (.k (.d (.b false))))]) (
.seq (.region false [
oo 6 (.mkm),
oo 3 (.mv (.t 6))]) (
.seq (.seq (.region false [
oo 7 (.mv (.t 0)),
oo 8 (.len 0 (.t 7)),
oo 9 (.mv (.k (.d (.i .i64 0))))]) (
.block 0 (.loop ⟨[3, 7, 8, 9], [], [], [], [], true⟩ (.seq (.region false [
oo 10 (.bin .lss (.t 9) (.t 8))]) (
.seq (.cond (.t 10) (
.skip) (.exit 0)) (
.seq (.block 1 (.seq (.region false [
oo 11 (.ia 1 (.t 7) (.t 9)),
oo 12 (.ld false 1 (.t 11)),
oo 5 (.mv (.t 12))]) (
.seq (.seq (.region false [
oo 13 (.mv (.t 3)),
oo 14 (.mv (.t 5)),
oo 15 (.lk false [.s] false (.d (.b false)) (.t 13) (.t 14))]) (
.cond (.t 15) (
.seq (.region false [
oo 2 (.mv (.k (.d (.b false))))]) (
.ret)) (.skip))) (
.region false [
oo 16 (.mv (.t 3)),
oo 17 (.mv (.t 5)),
⟨none, .mu false [.s] (.t 16) (.t 17) (.k (.d (.b true))), none, 0⟩])))) (
.region false [
oo 18 (.bin .add (.t 9) (.k (.d (.i .i64 1)))),
oo 9 (.mv (.t 18))]))))))) (
.seq (.region false [
oo 2 (.mv (.k (.d (.b true))))]) (
.ret)))), [.slot 2]⟩
def n217 : Notes := { anns := [⟨[3, 7, 8, 9], [], [], [], [], true⟩], frz := [], rgs := [] }
def c218 : CFn := ⟨.seq (.region false [
oo 4 (.mv (.k (.d (.b false))))]) (
.seq (.region false [
oo 5 (.mv (.t 0)),
oo 6 (.mv (.t 1)),
oo 7 (.call 233 [.t 5, .t 6] 4 true),
oo 8 (.bin .geq (.t 7) (.k (.d (.i .i64 0)))),
oo 4 (.mv (.t 8))]) (
.ret)), [.slot 4]⟩
def n218 : Notes := { anns := [], frz := [], rgs := [] }
def c219 : CFn := ⟨.seq (.region false [
oo 2 (.mv (.k (.d (.b false))))]) (
.seq (.region false [
oo 3 (.mv (.t 0)),
oo 4 (.call 220 [.t 3] 0 true),
oo 5 (.un .not (.t 4)),
oo 2 (.mv (.t 5))]) (
.ret)), [.slot 2]⟩
def n219 : Notes := { anns := [], frz := [], rgs := [] }
def c220 : CFn := ⟨.seq (.region false [
oo 2 (.mv (.k (.d (.b false))))]) (
.seq (.seq (.region false [
oo 5 (.mv (.t 0)),
oo 6 (.len 1 (.t 5)),
oo 7 (.bin .lss (.t 6) (.k (.d (.i .i64 1)))),
oo 8 (.mv (.t 7)),
⟨some 9, .mv (.t 0), (some (8, false)), 0⟩,
⟨some 10, .len 1 (.t 9), (some (8, false)), 0⟩,
⟨some 11, .bin .gtr (.t 10) (.k (.d (.i .i64 8))), (some (8, false)), 0⟩,
oo 12 (.pick (.t 8) (.k (.d (.b true))) (.t 11))]) (
.cond (.t 12) (
.seq (.region false [
oo 2 (.mv (.k (.d (.b false))))]) (
.ret)) (.skip))) (
.seq (.seq (.region false [
oo 13 (.mv (.t 0)),
oo 14 (.len 1 (.t 13)),
oo 15 (.mv (.k (.d (.i .i64 0))))]) (
.block 0 (.loop ⟨[0, 14, 15], [], [], [], [], true⟩ (.seq (.region false [
oo 16 (.bin .lss (.t 15) (.t 14))]) (
.seq (.cond (.t 16) (
.skip) (.exit 0)) (
.seq (.block 1 (.seq (.region false [
oo 17 (.mv (.t 15)),
oo 3 (.mv (.t 17))]) (
.seq (.region false [
oo 18 (.mv (.t 0)),
oo 19 (.mv (.t 3)),
oo 20 (.ixs (.t 18) (.t 19)),
oo 21 (.bin .geq (.t 20) (.k (.d (.i .u8 97)))),
oo 22 (.mv (.t 21)),
⟨some 23, .mv (.t 0), (some (22, true)), 0⟩,
⟨some 24, .mv (.t 3), (some (22, true)), 0⟩,
⟨some 25, .ixs (.t 23) (.t 24), (some (22, true)), 0⟩,
⟨some 26, .bin .leq (.t 25) (.k (.d (.i .u8 122))), (some (22, true)), 0⟩,
oo 27 (.pick (.t 22) (.t 26) (.k (.d (.b false)))),
oo 4 (.mv (.t 27))]) (
.seq (.region false [
oo 28 (.mv (.t 4)),
oo 29 (.un .not (.t 28)),
oo 30 (.mv (.t 29)),
⟨some 31, .mv (.t 3), (some (30, true)), 0⟩,
⟨some 32, .bin .eql (.t 31) (.k (.d (.i .i64 0))), (some (30, true)), 0⟩,
⟨some 33, .mv (.t 32), (some (30, true)), 0⟩,
⟨some 34, .mv (.t 0), (some (33, false)), 0⟩,
⟨some 35, .mv (.t 3), (some (33, false)), 0⟩,
⟨some 36, .ixs (.t 34) (.t 35), (some (33, false)), 0⟩,
⟨some 37, .bin .lss (.t 36) (.k (.d (.i .u8 48))), (some (33, false)), 0⟩,
⟨some 38, .pick (.t 33) (.k (.d (.b true))) (.t 37), (some (30, true)), 0⟩,
⟨some 39, .mv (.t 38), (some (30, true)), 0⟩,
⟨some 40, .mv (.t 0), (some (39, false)), 0⟩,
⟨some 41, .mv (.t 3), (some (39, false)), 0⟩,
⟨some 42, .ixs (.t 40) (.t 41), (some (39, false)), 0⟩,
⟨some 43, .bin .gtr (.t 42) (.k (.d (.i .u8 57))), (some (39, false)), 0⟩,
⟨some 44, .pick (.t 39) (.k (.d (.b true))) (.t 43), (some (30, true)), 0⟩,
oo 45 (.pick (.t 30) (.t 44) (.k (.d (.b false))))]) (
.cond (.t 45) (
.seq (.region false [
oo 2 (.mv (.k (.d (.b false))))]) (
.ret)) (.skip)))))) (
.region false [
oo 46 (.bin .add (.t 15) (.k (.d (.i .i64 1)))),
oo 15 (.mv (.t 46))]))))))) (
.seq (.region false [
oo 2 (.mv (.k (.d (.b true))))]) (
.ret)))), [.slot 2]⟩
def n220 : Notes := { anns := [⟨[0, 14, 15], [], [], [], [], true⟩], frz := [], rgs := [] }
def c221 : CFn := ⟨.seq (.region false [
oo 4 (.mv (.k (.d (.i .i64 0))))]) (
.seq (.seq (.region false [
oo 6 (.mv (.t 0)),
oo 7 (.len 0 (.t 6)),
oo 8 (.mv (.k (.d (.i .i64 0))))]) (
.block 0 (.loop ⟨[0, 1, 7, 8], [], [], [], [], true⟩ (.seq (.region false [
oo 9 (.bin .lss (.t 8) (.t 7))]) (
.seq (.cond (.t 9) (
.skip) (.exit 0)) (
.seq (.block 1 (.seq (.region false [
oo 10 (.mv (.t 8)),
oo 5 (.mv (.t 10))]) (
.seq (.region false [
oo 11 (.mv (.t 1)),
oo 12 (.mv (.t 0)),
oo 13 (.mv (.t 5)),
oo 14 (.ia 3 (.t 12) (.t 13)),
oo 15 (.ld true 3 (.t 14)),
oo 16 (.callv (.t 11) [.t 15] 4 true)]) (
.cond (.t 16) (
.seq (.region false [
oo 17 (.mv (.t 5)),
oo 4 (.mv (.t 17))]) (
.ret)) (.skip))))) (
.region false [
oo 18 (.bin .add (.t 8) (.k (.d (.i .i64 1)))),
oo 8 (.mv (.t 18))]))))))) (
.seq (.region false [
oo 4 (.mv (.k (.d (.i .i64 (-1)))))]) (
.ret))), [.slot 4]⟩
def n221 : Notes := { anns := [⟨[0, 1, 7, 8], [], [], [], [], true⟩], frz := [], rgs := [] }
def c222 : CFn := ⟨.seq (.region false [
oo 4 (.mv (.k (.d (.b false))))]) (
.seq (.region false [
oo 5 (.mv (.t 0)),
oo 6 (.mv (.t 1)),
oo 7 (.call 234 [.t 5, .t 6] 4 true),
oo 8 (.bin .geq (.t 7) (.k (.d (.i .i64 0)))),
oo 4 (.mv (.t 8))]) (
.ret)), [.slot 4]⟩
def n222 : Notes := { anns := [], frz := [], rgs := [] }
def c223 : CFn := ⟨.seq (.region false [
oo 2 (.box (.t 0)),
oo 3 (.mv (.k (.d (.b false))))]) (
.seq (.region false [
oo 4 (.ld true 3 (.t 1)),
oo 5 (.ld true 2 (.t 2)),
oo 6 (.call 224 [.t 4, .t 5] 0 true),
oo 7 (.un .not (.t 6)),
oo 3 (.mv (.t 7))]) (
.ret)), [.slot 3]⟩
def n223 : Notes := { anns := [], frz := [], rgs := [] }
def c224 : CFn := ⟨.seq (.region false [
oo 2 (.box (.t 0)),
oo 3 (.box (.t 1)),
oo 4 (.mv (.k (.d (.b false))))]) (
.seq (.seq (.region false [
oo 5 (.fa 0 (.t 3)),
oo 6 (.ld false 1 (.t 5))]) (
.cond (.t 6) (
.seq (.region false [
oo 7 (.fa 1 (.t 3)),
oo 8 (.ld false 1 (.t 7)),
oo 9 (.bin .geq (.t 8) (.k (.d (.i .i64 0)))),
oo 10 (.mv (.t 9)),
⟨some 11, .fa 1 (.t 3), (some (10, true)), 0⟩,
⟨some 12, .ld false 1 (.t 11), (some (10, true)), 0⟩,
⟨some 13, .fa 0 (.t 2), (some (10, true)), 0⟩,
⟨some 14, .ld false 1 (.t 13), (some (10, true)), 0⟩,
⟨some 15, .len 0 (.t 14), (some (10, true)), 0⟩,
⟨some 16, .bin .lss (.t 12) (.t 15), (some (10, true)), 0⟩,
oo 17 (.pick (.t 10) (.t 16) (.k (.d (.b false)))),
oo 18 (.mv (.t 17)),
⟨some 19, .fa 0 (.t 2), (some (18, true)), 0⟩,
⟨some 20, .ld false 1 (.t 19), (some (18, true)), 0⟩,
⟨some 21, .fa 1 (.t 3), (some (18, true)), 0⟩,
⟨some 22, .ld false 1 (.t 21), (some (18, true)), 0⟩,
⟨some 23, .ia 3 (.t 20) (.t 22), (some (18, true)), 0⟩,
⟨some 24, .fa 2 (.t 23), (some (18, true)), 0⟩,
⟨some 25, .ld false 1 (.t 24), (some (18, true)), 0⟩,
⟨some 26, .un .not (.t 25), (some (18, true)), 0⟩,
oo 27 (.pick (.t 18) (.t 26) (.k (.d (.b false)))),
oo 4 (.mv (.t 27))]) (
.ret)) (.skip))) (
.seq (.region false [
oo 28 (.fa 1 (.t 3)),
oo 29 (.ld false 1 (.t 28)),
oo 30 (.bin .geq (.t 29) (.k (.d (.i .i64 0)))),
oo 31 (.mv (.t 30)),
⟨some 32, .fa 1 (.t 3), (some (31, true)), 0⟩,
⟨some 33, .ld false 1 (.t 32), (some (31, true)), 0⟩,
⟨some 34, .fa 1 (.t 2), (some (31, true)), 0⟩,
⟨some 35, .ld false 1 (.t 34), (some (31, true)), 0⟩,
⟨some 36, .len 0 (.t 35), (some (31, true)), 0⟩,
⟨some 37, .bin .lss (.t 33) (.t 36), (some (31, true)), 0⟩,
oo 38 (.pick (.t 31) (.t 37) (.k (.d (.b false)))),
oo 4 (.mv (.t 38))]) (
.ret))), [.slot 4]⟩
def n224 : Notes := { anns := [], frz := [], rgs := [] }
def c225 : CFn := ⟨.seq (.region false [
oo 2 (.box (.t 0)),
oo 4 (.mv (.k (.d (.i .i64 0)))),
oo 5 (.mv (.k (.d (.b false))))]) (
.seq (.block 0 (.seq (.region false [
oo 7 (.mv (.t 1)),
oo 8 (.bin .eql (.t 7) (.k (.d (.i .i64 0)))),
oo 6 (.mv (.t 8))]) (
.cond (.t 6) (
.seq (.region false [
oo 9 (.fa 0 (.t 2)),
oo 10 (.ld false 1 (.t 9)),
oo 4 (.mv (.t 10)),
oo 5 (.mv (.k (.d (.b true))))]) (
.ret)) (.seq (.region false [
oo 12 (.mv (.t 1)),
oo 13 (.bin .lss (.t 12) (.k (.d (.i .i64 0)))),
oo 14 (.mv (.t 13)),
⟨some 15, .mv (.t 1), (some (14, false)), 0⟩,
⟨some 16, .fa 1 (.t 2), (some (14, false)), 0⟩,
⟨some 17, .ld false 1 (.t 16), (some (14, false)), 0⟩,
⟨some 18, .len 0 (.t 17), (some (14, false)), 0⟩,
⟨some 19, .bin .gtr (.t 15) (.t 18), (some (14, false)), 0⟩,
oo 20 (.pick (.t 14) (.k (.d (.b true))) (.t 19)),
oo 21 (.mv (.t 20)),
⟨some 22, .fa 1 (.t 2), (some (21, false)), 0⟩,
⟨some 23, .ld false 1 (.t 22), (some (21, false)), 0⟩,
⟨some 24, .mv (.t 1), (some (21, false)), 0⟩,
⟨some 25, .bin .sub (.t 24) (.k (.d (.i .i64 1))), (some (21, false)), 0⟩,
⟨some 26, .ia 2 (.t 23) (.t 25), (some (21, false)), 0⟩,
⟨some 27, .fa 0 (.t 26), (some (21, false)), 0⟩,
⟨some 28, .ld false 1 (.t 27), (some (21, false)), 0⟩,
oo 29 (.pick (.t 21) (.k (.d (.b true))) (.t 28)),
oo 11 (.mv (.t 29))]) (
.cond (.t 11) (
.seq (.region false [
oo 4 (.mv (.k (.d (.i .i64 0)))),
oo 5 (.mv (.k (.d (.b false))))]) (
.ret)) (.skip)))))) (
.seq (.region false [
oo 30 (.fa 1 (.t 2)),
oo 31 (.ld false 1 (.t 30)),
oo 32 (.mv (.t 1)),
oo 33 (.bin .sub (.t 32) (.k (.d (.i .i64 1)))),
oo 34 (.ia 2 (.t 31) (.t 33)),
oo 35 (.fa 1 (.t 34)),
oo 36 (.ld false 1 (.t 35)),
oo 4 (.mv (.t 36)),
oo 5 (.mv (.k (.d (.b true))))]) (
.ret))), [.slot 4, .slot 5]⟩
def n225 : Notes := { anns := [], frz := [], rgs := [] }
def c226 : CFn := ⟨.seq (.region false [
oo 4 (.mv (.k (.d (.b false))))]) (
.seq (.region false [
oo 5 (.mv (.t 0)),
oo 6 (.mv (.t 1)),
oo 7 (.call 235 [.t 5, .t 6] 4 true),
oo 8 (.bin .geq (.t 7) (.k (.d (.i .i64 0)))),
oo 4 (.mv (.t 8))]) (
.ret)), [.slot 4]⟩
def n226 : Notes := { anns := [], frz := [], rgs := [] }
def c227 : CFn := ⟨.seq (.region false [
oo 2 (.box (.t 0)),
oo 3 (.mv (.k (.d (.b false))))]) (
.seq (.region false [
oo 4 (.ld false 1 (.t 1)),
oo 5 (.ld true 10 (.t 2)),
oo 6 (.callv (.t 4) [.t 5] 4 true),
oo 7 (.un .not (.t 6)),
oo 3 (.mv (.t 7))]) (
.ret)), [.slot 3]⟩
def n227 : Notes := { anns := [], frz := [], rgs := [] }
def c228 : CFn := ⟨.seq (.region false [
oo 2 (.box (.t 0)),
oo 3 (.box (.t 1)),
oo 4 (.mv (.k (.d (.b false))))]) (
.seq (.region false [
oo 6 (.fa 0 (.t 2)),
oo 7 (.ld false 1 (.t 6)),
oo 8 (.call 236 [.t 7] 0 true),
oo 5 (.mv (.t 8))]) (
.seq (.seq (.region false [
oo 9 (.ld false 1 (.t 3)),
oo 10 (.bin .lss (.t 9) (.k (.d (.i .i64 1)))),
oo 11 (.mv (.t 10)),
⟨some 12, .mv (.t 5), (some (11, false)), 0⟩,
⟨some 13, .bin .eql (.t 12) (.k (.d (.i .i64 (-2)))), (some (11, false)), 0⟩,
oo 14 (.pick (.t 11) (.k (.d (.b true))) (.t 13)),
oo 15 (.mv (.t 14)),
⟨some 16, .mv (.t 5), (some (15, false)), 0⟩,
⟨some 17, .bin .geq (.t 16) (.k (.d (.i .i64 0))), (some (15, false)), 0⟩,
⟨some 18, .mv (.t 17), (some (15, false)), 0⟩,
⟨some 19, .fa 7 (.t 2), (some (18, true)), 0⟩,
⟨some 20, .ld false 1 (.t 19), (some (18, true)), 0⟩,
⟨some 21, .len 0 (.t 20), (some (18, true)), 0⟩,
⟨some 22, .mv (.t 5), (some (18, true)), 0⟩,
⟨some 23, .bin .neq (.t 21) (.t 22), (some (18, true)), 0⟩,
⟨some 24, .pick (.t 18) (.t 23) (.k (.d (.b false))), (some (15, false)), 0⟩,
oo 25 (.pick (.t 15) (.k (.d (.b true))) (.t 24)),
oo 26 (.mv (.t 25)),
⟨some 27, .fa 7 (.t 2), (some (26, false)), 0⟩,
⟨some 28, .ld false 1 (.t 27), (some (26, false)), 0⟩,
⟨some 29, .len 0 (.t 28), (some (26, false)), 0⟩,
⟨some 30, .bin .gtr (.t 29) (.k (.d (.i .i64 4))), (some (26, false)), 0⟩,
oo 31 (.pick (.t 26) (.k (.d (.b true))) (.t 30)),
oo 32 (.mv (.t 31)),
⟨some 33, .ld true 8 (.t 2), (some (32, false)), 0⟩,
⟨some 34, .call 237 [.t 33] 0 true, (some (32, false)), 0⟩,
⟨some 35, .un .not (.t 34), (some (32, false)), 0⟩,
oo 36 (.pick (.t 32) (.k (.d (.b true))) (.t 35))]) (
.cond (.t 36) (
.seq (.region false [
oo 4 (.mv (.k (.d (.b false))))]) (
.ret)) (.skip))) (
.seq (.region false [
oo 37 (.fa 7 (.t 2)),
oo 38 (.ld false 1 (.t 37)),
oo 39 (.mkf 238 [] [.t 3] true),
oo 40 (.call 229 [.t 38, .t 39] 4 true),
oo 41 (.un .not (.t 40)),
oo 4 (.mv (.t 41))]) (
.ret)))), [.slot 4]⟩
def n228 : Notes := { anns := [], frz := [0, 0, 0, 0, 0, 0, 0, 0, 0, 0, 0, 0, 0, 0, 0, 0, 0, 0, 0, 0, 0, 0, 0, 0, 0, 0, 0, 0, 0, 0, 0, 0, 0, 0, 0, 0, 0, 0, 1], rgs := [] }
def c229 : CFn := ⟨.seq (.region false [
oo 4 (.mv (.k (.d (.b false))))]) (
.seq (.region false [
oo 5 (.mv (.t 0)),
oo 6 (.mv (.t 1)),
oo 7 (.call 239 [.t 5, .t 6] 4 true),
oo 8 (.bin .geq (.t 7) (.k (.d (.i .i64 0)))),
oo 4 (.mv (.t 8))]) (
.ret)), [.slot 4]⟩
def n229 : Notes := { anns := [], frz := [], rgs := [] }
def c230 : CFn := ⟨.seq (.region false [
oo 2 (.box (.t 0)),
oo 3 (.mv (.k (.d (.b false))))]) (
.seq (.region false [
oo 4 (.ld true 3 (.t 1)),
oo 5 (.ld true 8 (.t 2)),
oo 6 (.call 211 [.t 4, .t 5] 0 true),
oo 7 (.un .not (.t 6)),
oo 3 (.mv (.t 7))]) (
.ret)), [.slot 3]⟩
def n230 : Notes := { anns := [], frz := [], rgs := [] }
def c231 : CFn := ⟨.seq (.region false [
oo 4 (.mv (.k (.d (.b false))))]) (
.seq (.region false [
oo 5 (.mv (.t 0)),
oo 6 (.mv (.t 1)),
oo 7 (.call 240 [.t 5, .t 6] 4 true),
oo 8 (.bin .geq (.t 7) (.k (.d (.i .i64 0)))),
oo 4 (.mv (.t 8))]) (
.ret)), [.slot 4]⟩
def n231 : Notes := { anns := [], frz := [], rgs := [] }
def c232 : CFn := ⟨.seq (.region false [
oo 2 (.box (.t 0)),
oo 3 (.mv (.k (.d (.b false))))]) (
.seq (.region false [
oo 4 (.ld false 1 (.t 1)),
oo 5 (.ld true 2 (.t 2)),
oo 6 (.callv (.t 4) [.t 5] 4 true),
oo 7 (.un .not (.t 6)),
oo 3 (.mv (.t 7))]) (
.ret)), [.slot 3]⟩
def n232 : Notes := { anns := [], frz := [], rgs := [] }
def c233 : CFn := ⟨.seq (.region false [
oo 4 (.mv (.k (.d (.i .i64 0))))]) (
.seq (.seq (.region false [
oo 6 (.mv (.t 0)),
oo 7 (.len 0 (.t 6)),
oo 8 (.mv (.k (.d (.i .i64 0))))]) (
.block 0 (.loop ⟨[0, 1, 7, 8], [], [], [], [], true⟩ (.seq (.region false [
oo 9 (.bin .lss (.t 8) (.t 7))]) (
.seq (.cond (.t 9) (
.skip) (.exit 0)) (
.seq (.block 1 (.seq (.region false [
oo 10 (.mv (.t 8)),
oo 5 (.mv (.t 10))]) (
.seq (.region false [
oo 11 (.mv (.t 1)),
oo 12 (.mv (.t 0)),
oo 13 (.mv (.t 5)),
oo 14 (.ia 1 (.t 12) (.t 13)),
oo 15 (.ld false 1 (.t 14)),
oo 16 (.callv (.t 11) [.t 15] 4 true)]) (
.cond (.t 16) (
.seq (.region false [
oo 17 (.mv (.t 5)),
oo 4 (.mv (.t 17))]) (
.ret)) (.skip))))) (
.region false [
oo 18 (.bin .add (.t 8) (.k (.d (.i .i64 1)))),
oo 8 (.mv (.t 18))]))))))) (
.seq (.region false [
oo 4 (.mv (.k (.d (.i .i64 (-1)))))]) (
.ret))), [.slot 4]⟩
def n233 : Notes := { anns := [⟨[0, 1, 7, 8], [], [], [], [], true⟩], frz := [], rgs := [] }
def c234 : CFn := ⟨.seq (.region false [
oo 4 (.mv (.k (.d (.i .i64 0))))]) (
.seq (.seq (.region false [
oo 6 (.mv (.t 0)),
oo 7 (.len 0 (.t 6)),
oo 8 (.mv (.k (.d (.i .i64 0))))]) (
.block 0 (.loop ⟨[0, 1, 7, 8], [], [], [], [], true⟩ (.seq (.region false [
oo 9 (.bin .lss (.t 8) (.t 7))]) (
.seq (.cond (.t 9) (
.skip) (.exit 0)) (
.seq (.block 1 (.seq (.region false [
oo 10 (.mv (.t 8)),
oo 5 (.mv (.t 10))]) (
.seq (.region false [
oo 11 (.mv (.t 1)),
oo 12 (.mv (.t 0)),
oo 13 (.mv (.t 5)),
oo 14 (.ia 2 (.t 12) (.t 13)),
oo 15 (.ld true 2 (.t 14)),
oo 16 (.callv (.t 11) [.t 15] 4 true)]) (
.cond (.t 16) (
.seq (.region false [
oo 17 (.mv (.t 5)),
oo 4 (.mv (.t 17))]) (
.ret)) (.skip))))) (
.region false [
oo 18 (.bin .add (.t 8) (.k (.d (.i .i64 1)))),
oo 8 (.mv (.t 18))]))))))) (
.seq (.region false [
oo 4 (.mv (.k (.d (.i .i64 (-1)))))]) (
.ret))), [.slot 4]⟩
def n234 : Notes := { anns := [⟨[0, 1, 7, 8], [], [], [], [], true⟩], frz := [], rgs := [] }
def c235 : CFn := ⟨.seq (.region false [
oo 4 (.mv (.k (.d (.i .i64 0))))]) (
.seq (.seq (.region false [
oo 6 (.mv (.t 0)),
oo 7 (.len 0 (.t 6)),
oo 8 (.mv (.k (.d (.i .i64 0))))]) (
.block 0 (.loop ⟨[0, 1, 7, 8], [], [], [], [], true⟩ (.seq (.region false [
oo 9 (.bin .lss (.t 8) (.t 7))]) (
.seq (.cond (.t 9) (
.skip) (.exit 0)) (
.seq (.block 1 (.seq (.region false [
oo 10 (.mv (.t 8)),
oo 5 (.mv (.t 10))]) (
.seq (.region false [
oo 11 (.mv (.t 1)),
oo 12 (.mv (.t 0)),
oo 13 (.mv (.t 5)),
oo 14 (.ia 10 (.t 12) (.t 13)),
oo 15 (.ld true 10 (.t 14)),
oo 16 (.callv (.t 11) [.t 15] 4 true)]) (
.cond (.t 16) (
.seq (.region false [
oo 17 (.mv (.t 5)),
oo 4 (.mv (.t 17))]) (
.ret)) (.skip))))) (
.region false [
oo 18 (.bin .add (.t 8) (.k (.d (.i .i64 1)))),
oo 8 (.mv (.t 18))]))))))) (
.seq (.region false [
oo 4 (.mv (.k (.d (.i .i64 (-1)))))]) (
.ret))), [.slot 4]⟩
def n235 : Notes := { anns := [⟨[0, 1, 7, 8], [], [], [], [], true⟩], frz := [], rgs := [] }
def c236 : CFn := ⟨.seq (.region false [
oo 2 (.mv (.k (.d (.i .i64 0))))]) (
.seq (.seq (.region false [
oo 3 (.mv (.t 0))]) (
.block 0 (.seq (.seq (.region false [
oo 5 (.bin .eql (.t 3) (.k (.d (.i .i64 0)))),
oo 4 (.mv (.t 5))]) (
.cond (.t 4) (
.skip) (.seq (.region false [
oo 6 (.bin .eql (.t 3) (.k (.d (.i .i64 1)))),
oo 4 (.mv (.t 6))]) (
.cond (.t 4) (
.skip) (.seq (.region false [
oo 7 (.bin .eql (.t 3) (.k (.d (.i .i64 2)))),
oo 4 (.mv (.t 7))]) (
.cond (.t 4) (
.skip) (.seq (.region false [
oo 8 (.bin .eql (.t 3) (.k (.d (.i .i64 3)))),
oo 4 (.mv (.t 8))]) (
.cond (.t 4) (
.skip) (.seq (.region false [
oo 9 (.bin .eql (.t 3) (.k (.d (.i .i64 21)))),
oo 4 (.mv (.t 9))]) (
.cond (.t 4) (
.skip) (.region false [
oo 10 (.bin .eql (.t 3) (.k (.d (.i .i64 22)))),
oo 4 (.mv (.t 10))]))))))))))) (
.cond (.t 4) (
.seq (.region false [
oo 2 (.mv (.k (.d (.i .i64 0))))]) (
.ret)) (.seq (.seq (.region false [
oo 12 (.bin .eql (.t 3) (.k (.d (.i .i64 11)))),
oo 11 (.mv (.t 12))]) (
.cond (.t 11) (
.skip) (.region false [
oo 13 (.bin .eql (.t 3) (.k (.d (.i .i64 15)))),
oo 11 (.mv (.t 13))]))) (
.cond (.t 11) (
.seq (.region false [
oo 2 (.mv (.k (.d (.i .i64 1))))]) (
.ret)) (.seq (.seq (.region false [
oo 15 (.bin .eql (.t 3) (.k (.d (.i .i64 12)))),
oo 14 (.mv (.t 15))]) (
.cond (.t 14) (
.skip) (.region false [
oo 16 (.bin .eql (.t 3) (.k (.d (.i .i64 16)))),
oo 14 (.mv (.t 16))]))) (
.cond (.t 14) (
.seq (.region false [
oo 2 (.mv (.k (.d (.i .i64 3))))]) (
.ret)) (.seq (.region false [
oo 18 (.bin .eql (.t 3) (.k (.d (.i .i64 14)))),
oo 17 (.mv (.t 18))]) (
.cond (.t 17) (
.seq (.region false [
oo 2 (.mv (.k (.d (.i .i64 (-1)))))]) (
.ret)) (.skip))))))))))) (
.seq (.seq (.region false [
oo 19 (.mv (.t 0)),
oo 20 (.bin .gtr (.t 19) (.k (.d (.i .i64 3)))),
oo 21 (.mv (.t 20)),
⟨some 22, .mv (.t 0), (some (21, true)), 0⟩,
⟨some 23, .bin .lss (.t 22) (.k (.d (.i .i64 21))), (some (21, true)), 0⟩,
oo 24 (.pick (.t 21) (.t 23) (.k (.d (.b false))))]) (
.cond (.t 24) (
.seq (.region false [
oo 2 (.mv (.k (.d (.i .i64 2))))]) (
.ret)) (.skip))) (
.seq (.region false [
oo 2 (.mv (.k (.d (.i .i64 (-2)))))]) (
.ret)))), [.slot 2]⟩
def n236 : Notes := { anns := [], frz := [], rgs := [] }
def c237 : CFn := ⟨.seq (.region false [
oo 1 (.box (.t 0)),
oo 2 (.mv (.k (.d (.b false))))]) (
.seq (.seq (.region false [
oo 5 (.fa 0 (.t 1)),
oo 6 (.ld false 1 (.t 5)),
oo 7 (.bin .eql (.t 6) (.k (.d (.i .i64 0))))]) (
.cond (.t 7) (
.seq (.region false [
oo 8 (.fa 1 (.t 1)),
oo 9 (.fa 0 (.t 8)),
oo 10 (.ld false 1 (.t 9)),
oo 11 (.bin .neq (.t 10) (.k (.d (.i .i64 7)))),
oo 12 (.mv (.t 11)),
⟨some 13, .fa 1 (.t 1), (some (12, true)), 0⟩,
⟨some 14, .ld true 4 (.t 13), (some (12, true)), 0⟩,
⟨some 15, .call 111 [.t 14] 0 true, (some (12, true)), 0⟩,
oo 16 (.pick (.t 12) (.t 15) (.k (.d (.b false)))),
oo 17 (.mv (.t 16)),
⟨some 18, .fa 5 (.t 1), (some (17, true)), 0⟩,
⟨some 19, .ld false 1 (.t 18), (some (17, true)), 0⟩,
⟨some 20, .bin .eql (.t 19) (.k (.d (.i .i64 0))), (some (17, true)), 0⟩,
oo 21 (.pick (.t 17) (.t 20) (.k (.d (.b false)))),
oo 22 (.mv (.t 21)),
⟨some 23, .fa 6 (.t 1), (some (22, true)), 0⟩,
⟨some 24, .ld false 1 (.t 23), (some (22, true)), 0⟩,
⟨some 25, .bin .eql (.t 24) (.k (.d (.i .i64 0))), (some (22, true)), 0⟩,
oo 26 (.pick (.t 22) (.t 25) (.k (.d (.b false)))),
oo 2 (.mv (.t 26))]) (
.ret)) (.skip))) (
.seq (.region false [
oo 3 (.mv (.k (.d (.i .i64 0)))),
oo 4 (.mv (.k (.d (.i .i64 0))))]) (
.seq (.seq (.region false [
oo 27 (.fa 0 (.t 1)),
oo 28 (.ld false 1 (.t 27))]) (
.block 0 (.seq (.region false [
oo 30 (.bin .eql (.t 28) (.k (.d (.i .i64 1)))),
oo 29 (.mv (.t 30))]) (
.cond (.t 29) (
.region false [
oo 3 (.mv (.k (.d (.i .i64 5)))),
oo 4 (.mv (.k (.d (.i .i64 7))))]) (.seq (.seq (.region false [
oo 32 (.bin .eql (.t 28) (.k (.d (.i .i64 2)))),
oo 31 (.mv (.t 32))]) (
.cond (.t 31) (
.skip) (.region false [
oo 33 (.bin .eql (.t 28) (.k (.d (.i .i64 3)))),
oo 31 (.mv (.t 33))]))) (
.cond (.t 31) (
.region false [
oo 3 (.mv (.k (.d (.i .i64 5))))]) (.skip))))))) (
.seq (.region false [
oo 34 (.fa 1 (.t 1)),
oo 35 (.ld true 4 (.t 34)),
oo 36 (.call 241 [.t 35] 0 true),
oo 37 (.mv (.t 36)),
⟨some 38, .fa 5 (.t 1), (some (37, true)), 0⟩,
⟨some 39, .ld false 1 (.t 38), (some (37, true)), 0⟩,
⟨some 40, .bin .geq (.t 39) (.k (.d (.i .i64 0))), (some (37, true)), 0⟩,
oo 41 (.pick (.t 37) (.t 40) (.k (.d (.b false)))),
oo 42 (.mv (.t 41)),
⟨some 43, .fa 5 (.t 1), (some (42, true)), 0⟩,
⟨some 44, .ld false 1 (.t 43), (some (42, true)), 0⟩,
⟨some 45, .mv (.t 3), (some (42, true)), 0⟩,
⟨some 46, .bin .leq (.t 44) (.t 45), (some (42, true)), 0⟩,
oo 47 (.pick (.t 42) (.t 46) (.k (.d (.b false)))),
oo 48 (.mv (.t 47)),
⟨some 49, .fa 6 (.t 1), (some (48, true)), 0⟩,
⟨some 50, .ld false 1 (.t 49), (some (48, true)), 0⟩,
⟨some 51, .bin .geq (.t 50) (.k (.d (.i .i64 0))), (some (48, true)), 0⟩,
oo 52 (.pick (.t 48) (.t 51) (.k (.d (.b false)))),
oo 53 (.mv (.t 52)),
⟨some 54, .fa 6 (.t 1), (some (53, true)), 0⟩,
⟨some 55, .ld false 1 (.t 54), (some (53, true)), 0⟩,
⟨some 56, .mv (.t 4), (some (53, true)), 0⟩,
⟨some 57, .bin .leq (.t 55) (.t 56), (some (53, true)), 0⟩,
oo 58 (.pick (.t 53) (.t 57) (.k (.d (.b false)))),
oo 2 (.mv (.t 58))]) (
.ret))))), [.slot 2]⟩
def n237 : Notes := { anns := [], frz := [], rgs := [] }
def c238 : CFn := ⟨.seq (.region false [
oo 2 (.box (.t 0)),
oo 3 (.mv (.k (.d (.b false))))]) (
.seq (.region false [
oo 4 (.ld true 8 (.t 2)),
oo 5 (.ld false 1 (.t 1)),
oo 6 (.bin .sub (.t 5) (.k (.d (.i .i64 1)))),
oo 7 (.call 228 [.t 4, .t 6] 0 true),
oo 8 (.un .not (.t 7)),
oo 3 (.mv (.t 8))]) (
.ret)), [.slot 3]⟩
def n238 : Notes := { anns := [], frz := [], rgs := [] }
def c239 : CFn := ⟨.seq (.region false [
oo 4 (.mv (.k (.d (.i .i64 0))))]) (
.seq (.seq (.region false [
oo 6 (.mv (.t 0)),
oo 7 (.len 0 (.t 6)),
oo 8 (.mv (.k (.d (.i .i64 0))))]) (
.block 0 (.loop ⟨[0, 1, 7, 8], [], [], [], [], true⟩ (.seq (.region false [
oo 9 (.bin .lss (.t 8) (.t 7))]) (
.seq (.cond (.t 9) (
.skip) (.exit 0)) (
.seq (.block 1 (.seq (.region false [
oo 10 (.mv (.t 8)),
oo 5 (.mv (.t 10))]) (
.seq (.region false [
oo 11 (.mv (.t 1)),
oo 12 (.mv (.t 0)),
oo 13 (.mv (.t 5)),
oo 14 (.ia 8 (.t 12) (.t 13)),
oo 15 (.ld true 8 (.t 14)),
oo 16 (.callv (.t 11) [.t 15] 4 true)]) (
.cond (.t 16) (
.seq (.region false [
oo 17 (.mv (.t 5)),
oo 4 (.mv (.t 17))]) (
.ret)) (.skip))))) (
.region false [
oo 18 (.bin .add (.t 8) (.k (.d (.i .i64 1)))),
oo 8 (.mv (.t 18))]))))))) (
.seq (.region false [
oo 4 (.mv (.k (.d (.i .i64 (-1)))))]) (
.ret))), [.slot 4]⟩
def n239 : Notes := { anns := [⟨[0, 1, 7, 8], [], [], [], [], true⟩], frz := [], rgs := [] }
def c240 : CFn := ⟨.seq (.region false [
oo 4 (.mv (.k (.d (.i .i64 0))))]) (
.seq (.seq (.region false [
oo 6 (.mv (.t 0)),
oo 7 (.len 0 (.t 6)),
oo 8 (.mv (.k (.d (.i .i64 0))))]) (
.block 0 (.loop ⟨[0, 1, 7, 8], [], [], [], [], true⟩ (.seq (.region false [
oo 9 (.bin .lss (.t 8) (.t 7))]) (
.seq (.cond (.t 9) (
.skip) (.exit 0)) (
.seq (.block 1 (.seq (.region false [
oo 10 (.mv (.t 8)),
oo 5 (.mv (.t 10))]) (
.seq (.region false [
oo 11 (.mv (.t 1)),
oo 12 (.mv (.t 0)),
oo 13 (.mv (.t 5)),
oo 14 (.ia 2 (.t 12) (.t 13)),
oo 15 (.ld true 2 (.t 14)),
oo 16 (.callv (.t 11) [.t 15] 4 true)]) (
.cond (.t 16) (
.seq (.region false [
oo 17 (.mv (.t 5)),
oo 4 (.mv (.t 17))]) (
.ret)) (.skip))))) (
.region false [
oo 18 (.bin .add (.t 8) (.k (.d (.i .i64 1)))),
oo 8 (.mv (.t 18))]))))))) (
.seq (.region false [
oo 4 (.mv (.k (.d (.i .i64 (-1)))))]) (
.ret))), [.slot 4]⟩
def n240 : Notes := { anns := [⟨[0, 1, 7, 8], [], [], [], [], true⟩], frz := [], rgs := [] }
def c241 : CFn := ⟨.seq (.region false [
oo 1 (.box (.t 0)),
oo 2 (.mv (.k (.d (.b false))))]) (
.seq (.region false [
oo 3 (.fa 0 (.t 1)),
oo 4 (.ld false 1 (.t 3)),
oo 5 (.bin .eql (.t 4) (.k (.d (.i .i64 0)))),
oo 6 (.mv (.t 5)),
⟨some 7, .fa 1 (.t 1), (some (6, true)), 0⟩,
⟨some 8, .ld false 1 (.t 7), (some (6, true)), 0⟩,
⟨some 9, .bin .eql (.t 8) (.k (.d (.i .i64 0))), (some (6, true)), 0⟩,
oo 10 (.pick (.t 6) (.t 9) (.k (.d (.b false)))),
oo 11 (.mv (.t 10)),
⟨some 12, .fa 2 (.t 1), (some (11, true)), 0⟩,
⟨some 13, .ld false 1 (.t 12), (some (11, true)), 0⟩,
⟨some 14, .bin .eql (.t 13) (.k (.d (.s []))), (some (11, true)), 0⟩,
oo 15 (.pick (.t 11) (.t 14) (.k (.d (.b false)))),
oo 16 (.mv (.t 15)),
⟨some 17, .fa 3 (.t 1), (some (16, true)), 0⟩,
⟨some 18, .ld false 1 (.t 17), (some (16, true)), 0⟩,
⟨some 19, .len 0 (.t 18), (some (16, true)), 0⟩,
⟨some 20, .bin .eql (.t 19) (.k (.d (.i .i64 0))), (some (16, true)), 0⟩,
oo 21 (.pick (.t 16) (.t 20) (.k (.d (.b false)))),
oo 2 (.mv (.t 21))]) (
.ret)), [.slot 2]⟩
def n241 : Notes := { anns := [], frz := [], rgs := [] }
structure AE (E : Nat → Option Fn) : Prop where
 e111 : E 111 = some (.code c111)
 e112 : E 112 = some (.code c112)
 e114 : E 114 = some (.code c114)
 e125 : E 125 = some (.code c125)
 e126 : E 126 = some (.code c126)
 e127 : E 127 = some (.code c127)
 e128 : E 128 = some (.code c128)
 e129 : E 129 = some (.code c129)
 e130 : E 130 = some (.code c130)
 e137 : E 137 = some (.code c137)
 e139 : E 139 = some (.code c139)
 e140 : E 140 = some (.code c140)
 e141 : E 141 = some (.code c141)
 e142 : E 142 = some (.code c142)
 e143 : E 143 = some (.code c143)
 e144 : E 144 = some (.code c144)
 e145 : E 145 = some (.code c145)
 e151 : E 151 = some (.code c151)
 e152 : E 152 = some (.code c152)
 e153 : E 153 = some (.code c153)
 e154 : E 154 = some (.code c154)
 e155 : E 155 = some (.code c155)
 e169 : E 169 = some (.code c169)
 e181 : E 181 = some (.code c181)
 e182 : E 182 = some (.code c182)
 e184 : E 184 = some (.code c184)
 e185 : E 185 = some (.code c185)
 e186 : E 186 = some (.code c186)
 e187 : E 187 = some (.code c187)
 e192 : E 192 = some (.code c192)
 e197 : E 197 = some (.code c197)
 e198 : E 198 = some (.code c198)
 e199 : E 199 = some (.code c199)
 e200 : E 200 = some (.code c200)
 e201 : E 201 = some (.code c201)
 e202 : E 202 = some (.code c202)
 e203 : E 203 = some (.code c203)
 e204 : E 204 = some (.code c204)
 e205 : E 205 = some (.code c205)
 e206 : E 206 = some (.code c206)
 e207 : E 207 = some (.code c207)
 e208 : E 208 = some (.code c208)
 e209 : E 209 = some (.code c209)
 e210 : E 210 = some (.code c210)
 e211 : E 211 = some (.code c211)
 e212 : E 212 = some (.code c212)
 e213 : E 213 = some (.code c213)
 e214 : E 214 = some (.code c214)
 e216 : E 216 = some (.code c216)
 e217 : E 217 = some (.code c217)
 e218 : E 218 = some (.code c218)
 e219 : E 219 = some (.code c219)
 e220 : E 220 = some (.code c220)
 e221 : E 221 = some (.code c221)
 e222 : E 222 = some (.code c222)
 e223 : E 223 = some (.code c223)
 e224 : E 224 = some (.code c224)
 e225 : E 225 = some (.code c225)
 e226 : E 226 = some (.code c226)
 e227 : E 227 = some (.code c227)
 e228 : E 228 = some (.code c228)
 e229 : E 229 = some (.code c229)
 e230 : E 230 = some (.code c230)
 e231 : E 231 = some (.code c231)
 e232 : E 232 = some (.code c232)
 e233 : E 233 = some (.code c233)
 e234 : E 234 = some (.code c234)
 e235 : E 235 = some (.code c235)
 e236 : E 236 = some (.code c236)
 e237 : E 237 = some (.code c237)
 e238 : E 238 = some (.code c238)
 e239 : E 239 = some (.code c239)
 e240 : E 240 = some (.code c240)
 e241 : E 241 = some (.code c241)
structure PE (E : Nat → Option Fn) : Prop where
 e108 : E 108 = some (.code c108)
 e123 : E 123 = some (.code c123)
 e168 : E 168 = some (.code c168)
 e173 : E 173 = some (.code c173)
 e174 : E 174 = some (.code c174)
 e183 : E 183 = some (.code c183)
 e188 : E 188 = some (.code c188)
 e189 : E 189 = some (.code c189)
inductive GVal where
 | mk (kind i : Int) (s : List UInt8) (l : List GVal)
namespace GVal
def kind : GVal → Int | .mk k _ _ _ => k
def i : GVal → Int | .mk _ i _ _ => i
def s : GVal → List UInt8 | .mk _ _ s _ => s
def l : GVal → List GVal | .mk _ _ _ l => l
end GVal
mutual
def GVal.row : GVal → List D
 | .mk k i s l => [.i .i64 k, .i .i64 i, .s s, .l 4 (gvalRows l)]
def gvalRows : List GVal → List (List D)
 | [] => []
 | x :: r => GVal.row x :: gvalRows r
end
theorem gvalRows_eq : ∀ (l : List GVal), gvalRows l = l.map GVal.row
 | [] => rfl
 | x :: r => by simp [gvalRows, gvalRows_eq r]
structure GTok where
 name : List UInt8
 rex : List UInt8
 skip : Bool
structure GNt where
 name : List UInt8
 inh : List (List UInt8)
 syn : List (List UInt8)
structure GSym where
 tok : Bool
 at_ : Int
inductive Exp where
 | mk (op : Int) (v : GVal) (occ attr : Int) (args : List Exp)
namespace Exp
def op : Exp → Int | .mk o _ _ _ _ => o
def v : Exp → GVal | .mk _ v _ _ _ => v
def occ : Exp → Int | .mk _ _ o _ _ => o
def attr : Exp → Int | .mk _ _ _ a _ => a
def args : Exp → List Exp | .mk _ _ _ _ as => as
end Exp
structure GRule where
 occ : Int
 attr : Int
 e : Exp
structure GProd where
 left : Int
 right : List GSym
 rules : List GRule
structure Gram where
 toks : List GTok
 nts : List GNt
 prods : List GProd
def strRow (s : List UInt8) : List D := [.s s]
def GTok.row (t : GTok) : List D := [.s t.name, .s t.rex, .b t.skip]
def GNt.row (n : GNt) : List D := [.s n.name, .l 1 (n.inh.map strRow), .l 1 (n.syn.map strRow)]
def GSym.row (s : GSym) : List D := [.b s.tok, .i .i64 s.at_]
mutual
def Exp.row : Exp → List D
 | .mk o v occ attr args => [.i .i64 o, .i .i64 v.kind, .i .i64 v.i, .s v.s, .l 4 (gvalRows v.l), .i .i64 occ, .i .i64 attr, .l 8 (expRows args)]
def expRows : List Exp → List (List D)
 | [] => []
 | x :: r => Exp.row x :: expRows r
end
theorem expRows_eq : ∀ (l : List Exp), expRows l = l.map Exp.row
 | [] => rfl
 | x :: r => by simp [expRows, expRows_eq r]
theorem exp_row (e : Exp) : e.row = [.i .i64 e.op, .i .i64 e.v.kind, .i .i64 e.v.i, .s e.v.s, .l 4 (gvalRows e.v.l), .i .i64 e.occ, .i .i64 e.attr, .l 8 (e.args.map Exp.row)] := by
 cases e; simp only [Exp.row, expRows_eq]; rfl
def GRule.row (r : GRule) : List D := [.i .i64 r.occ, .i .i64 r.attr, .i .i64 r.e.op, .i .i64 r.e.v.kind, .i .i64 r.e.v.i, .s r.e.v.s, .l 4 (gvalRows r.e.v.l), .i .i64 r.e.occ, .i .i64 r.e.attr, .l 8 (r.e.args.map Exp.row)]
def GProd.row (p : GProd) : List D := [.i .i64 p.left, .l 2 (p.right.map GSym.row), .l 10 (p.rules.map GRule.row)]
def Gram.row (g : Gram) : List D := [.l 3 (g.toks.map GTok.row), .l 3 (g.nts.map GNt.row), .l 3 (g.prods.map GProd.row)]
def pairRow (x : Int × Int) : List D := [.i .i64 x.1, .i .i64 x.2]
abbrev Gram.cells (g : Gram) : List D := [.l 3 (g.toks.map GTok.row), .l 3 (g.nts.map GNt.row), .l 3 (g.prods.map GProd.row)]
abbrev GProd.cells (p : GProd) : List D := [.i .i64 p.left, .l 2 (p.right.map GSym.row), .l 10 (p.rules.map GRule.row)]
abbrev Gram.arg (g : Gram) : V := .agg [.d (.l 3 (g.toks.map GTok.row)), .d (.l 3 (g.nts.map GNt.row)), .d (.l 3 (g.prods.map GProd.row))]
abbrev GProd.arg (p : GProd) : V := .agg [.d (.i .i64 p.left), .d (.l 2 (p.right.map GSym.row)), .d (.l 10 (p.rules.map GRule.row))]
abbrev GSym.arg (s : GSym) : V := .agg [.d (.b s.tok), .d (.i .i64 s.at_)]
abbrev GNt.arg (n : GNt) : V := .agg [.d (.s n.name), .d (.l 1 (n.inh.map strRow)), .d (.l 1 (n.syn.map strRow))]
abbrev Exp.arg (e : Exp) : V := .agg [.d (.i .i64 e.op), .d (.i .i64 e.v.kind), .d (.i .i64 e.v.i), .d (.s e.v.s), .d (.l 4 (gvalRows e.v.l)), .d (.i .i64 e.occ), .d (.i .i64 e.attr), .d (.l 8 (e.args.map Exp.row))]
abbrev GVal.arg (v : GVal) : V := .agg [.d (.i .i64 v.kind), .d (.i .i64 v.i), .d (.s v.s), .d (.l 4 (gvalRows v.l))]
abbrev GRule.arg (r : GRule) : V := .agg [.d (.i .i64 r.occ), .d (.i .i64 r.attr), .d (.i .i64 r.e.op), .d (.i .i64 r.e.v.kind), .d (.i .i64 r.e.v.i), .d (.s r.e.v.s), .d (.l 4 (gvalRows r.e.v.l)), .d (.i .i64 r.e.occ), .d (.i .i64 r.e.attr), .d (.l 8 (r.e.args.map Exp.row))]
abbrev pairArg (a b : Int) : V := .agg [.d (.i .i64 a), .d (.i .i64 b)]
theorem exp_rowV (e : Exp) : rowV true e.row = e.arg := by rw [exp_row]; rfl
theorem get_at {α : Type} {l : List α} {i : Int} (h0 : 0 ≤ i) (h1 : i < l.length) : ∃ x, l[i.toNat]? = some x ∧ x ∈ l := ⟨l[i.toNat]'(by omega), List.getElem?_eq_getElem (by omega), List.getElem_mem _⟩
structure GProd.Ok (p : GProd) : Prop where
 right : p.right.length ≤ 1000
 rules : p.rules.length ≤ 1000
structure Gram.Ok (g : Gram) : Prop where
 toks : g.toks.length ≤ 1000
 nts : g.nts.length ≤ 1000
 prods : g.prods.length ≤ 1000
 nt : ∀ n ∈ g.nts, n.inh.length ≤ 1000 ∧ n.syn.length ≤ 1000
 prod : ∀ p ∈ g.prods, p.Ok
def noNt : GNt := ⟨[], [], []⟩
def ntA (g : Gram) (i : Int) : GNt := if 0 ≤ i then (g.nts[i.toNat]?).getD noNt else noNt
theorem ntA_ok {g : Gram} (h : g.Ok) (i : Int) : (ntA g i).inh.length ≤ 1000 ∧ (ntA g i).syn.length ≤ 1000 := by
 unfold ntA
 split
 ·cases hx : g.nts[i.toNat]? with
  | none => simp [noNt]
  | some n => exact h.nt n (List.mem_of_getElem? hx)
 ·simp [noNt]
theorem nt_ok (A : AE E) (g : Gram) (i : Int) : lcall E 197 [g.arg, .d (.i .i64 i)] [] = some ((ntA g i).arg, []) := by
 refine call_q A.e197 ?_
 by_cases h0 : 0 ≤ i
 ·by_cases h1 : i < g.nts.length
  ·obtain ⟨x, hx, _⟩ := get_at h0 h1
   simp only [evAll, Nat.reduceBEq, ↓reduceIte, Nat.reduceEqDiff, Nat.reduceAdd, Nat.reduceLeDiff, Nat.reduceSub, Nat.reduceLT, reduceCtorEq, Int.reduceEq, Int.reduceLT, Int.reduceLE, Int.reduceNeg, loopQ, Int.reduceToNat, Nat.reduceMul, List.range'_one, c197, eq_true h0, eq_true h1, hx, ntA, Option.getD_some, List.length_map, List.getElem?_map, Option.map_some, GNt.row, ofDs, List.map_cons, List.map_nil, ge_iff_le]
  ·have hx : g.nts[i.toNat]? = none := List.getElem?_eq_none (by omega)
   simp only [evAll, Nat.reduceBEq, ↓reduceIte, Nat.reduceEqDiff, Nat.reduceAdd, Nat.reduceLeDiff, Nat.reduceSub, Nat.reduceLT, reduceCtorEq, Int.reduceEq, Int.reduceLT, Int.reduceLE, Int.reduceNeg, loopQ, Int.reduceToNat, Nat.reduceMul, List.range'_one, c197, eq_true h0, h1, hx, ntA, Option.getD_none, noNt, List.length_map, List.map_nil, ge_iff_le]; rfl
 ·simp only [evAll, Nat.reduceBEq, ↓reduceIte, Nat.reduceEqDiff, Nat.reduceAdd, Nat.reduceLeDiff, Nat.reduceSub, Nat.reduceLT, reduceCtorEq, Int.reduceEq, Int.reduceLT, Int.reduceLE, Int.reduceNeg, loopQ, Int.reduceToNat, Nat.reduceMul, List.range'_one, c197, h0, ntA, noNt, List.map_nil, ge_iff_le]; rfl
def countF (g : Gram) (i : Int) : Int := (ntA g i).inh.length + (ntA g i).syn.length
def isInhF (g : Gram) (i a : Int) : Bool := decide (0 ≤ a) && decide (a < (ntA g i).inh.length)
theorem count_ok (A : AE E) {g : Gram} (hg : g.Ok) (i : Int) : lcall E 181 [g.arg, .d (.i .i64 i)] [] = some (.d (.i .i64 (countF g i)), []) := by
 have c1 := nt_ok A g i
 have hb := ntA_ok hg i
 have w : IntKind.i64.wrap (((ntA g i).inh.length : Int) + ((ntA g i).syn.length : Int)) = countF g i := by unfold countF; exact i64w (by omega) (by omega)
 refine call_q A.e181 ?_
 simp only [evAll, Nat.reduceBEq, ↓reduceIte, Nat.reduceEqDiff, Nat.reduceAdd, Nat.reduceLeDiff, Nat.reduceSub, Nat.reduceLT, reduceCtorEq, Int.reduceEq, Int.reduceLT, Int.reduceLE, Int.reduceNeg, loopQ, Int.reduceToNat, Nat.reduceMul, List.range'_one, c181, c1, w, List.length_map]
 rfl
theorem isInh_ok (A : AE E) (g : Gram) (i a : Int) : lcall E 182 [g.arg, .d (.i .i64 i), .d (.i .i64 a)] [] = some (.d (.b (isInhF g i a)), []) := by
 have c1 := nt_ok A g i
 refine call_q A.e182 ?_
 by_cases h0 : 0 ≤ a
 ·simp only [evAll, Nat.reduceBEq, ↓reduceIte, Nat.reduceEqDiff, Nat.reduceAdd, Nat.reduceLeDiff, Nat.reduceSub, Nat.reduceLT, reduceCtorEq, Int.reduceEq, Int.reduceLT, Int.reduceLE, Int.reduceNeg, loopQ, Int.reduceToNat, Nat.reduceMul, List.range'_one, c182, eq_true h0, c1, isInhF, List.length_map, decide_true, ge_iff_le]
 ·simp only [evAll, Nat.reduceBEq, ↓reduceIte, Nat.reduceEqDiff, Nat.reduceAdd, Nat.reduceLeDiff, Nat.reduceSub, Nat.reduceLT, reduceCtorEq, Int.reduceEq, Int.reduceLT, Int.reduceLE, Int.reduceNeg, loopQ, Int.reduceToNat, Nat.reduceMul, List.range'_one, c182, h0, isInhF, decide_false, ge_iff_le]
def occF (p : GProd) (i : Int) : Int × Bool := if i = 0 then (p.left, true) else if i < 0 ∨ i > p.right.length then (0, false) else match p.right[(i - 1).toNat]? with
 | some s => if s.tok then (0, false) else (s.at_, true)
 | none => (0, false)
theorem occ_ok (A : AE E) {p : GProd} (hp : p.Ok) (i : Int) : lcall E 225 [p.arg, .d (.i .i64 i)] [] = some (.tup [.d (.i .i64 (occF p i).1), .d (.b (occF p i).2)], []) := by
 have hr := hp.right
 refine call_q A.e225 ?_
 by_cases h0 : i = 0
 ·simp only [evAll, Nat.reduceBEq, ↓reduceIte, Nat.reduceEqDiff, Nat.reduceAdd, Nat.reduceLeDiff, Nat.reduceSub, Nat.reduceLT, reduceCtorEq, Int.reduceEq, Int.reduceLT, Int.reduceLE, Int.reduceNeg, loopQ, Int.reduceToNat, Nat.reduceMul, List.range'_one, c225, eq_true h0, occF]
 ·by_cases h1 : i < 0
  ·simp only [evAll, Nat.reduceBEq, ↓reduceIte, Nat.reduceEqDiff, Nat.reduceAdd, Nat.reduceLeDiff, Nat.reduceSub, Nat.reduceLT, reduceCtorEq, Int.reduceEq, Int.reduceLT, Int.reduceLE, Int.reduceNeg, loopQ, Int.reduceToNat, Nat.reduceMul, List.range'_one, c225, h0, eq_true h1, occF, true_or]
  ·by_cases h2 : i > p.right.length
   ·simp only [evAll, Nat.reduceBEq, ↓reduceIte, Nat.reduceEqDiff, Nat.reduceAdd, Nat.reduceLeDiff, Nat.reduceSub, Nat.reduceLT, reduceCtorEq, Int.reduceEq, Int.reduceLT, Int.reduceLE, Int.reduceNeg, loopQ, Int.reduceToNat, Nat.reduceMul, List.range'_one, c225, h0, h1, eq_true h2, occF, or_true, List.length_map]
   ·have w : IntKind.i64.wrap (i - 1) = i - 1 := i64w (by omega) (by omega)
    have h3 : 0 ≤ i - 1 := by omega
    obtain ⟨s, hs, _⟩ := get_at (l := p.right) h3 (by omega)
    cases ht : s.tok
    ·simp only [evAll, Nat.reduceBEq, ↓reduceIte, Nat.reduceEqDiff, Nat.reduceAdd, Nat.reduceLeDiff, Nat.reduceSub, Nat.reduceLT, reduceCtorEq, Int.reduceEq, Int.reduceLT, Int.reduceLE, Int.reduceNeg, loopQ, Int.reduceToNat, Nat.reduceMul, List.range'_one, c225, h0, h1, h2, occF, or_self, List.length_map, w, eq_true h3, hs, ht, GSym.row, List.getElem?_map, Option.map_some, ofDs, List.map_cons, List.map_nil]
    ·simp only [evAll, Nat.reduceBEq, ↓reduceIte, Nat.reduceEqDiff, Nat.reduceAdd, Nat.reduceLeDiff, Nat.reduceSub, Nat.reduceLT, reduceCtorEq, Int.reduceEq, Int.reduceLT, Int.reduceLE, Int.reduceNeg, loopQ, Int.reduceToNat, Nat.reduceMul, List.range'_one, c225, h0, h1, h2, occF, or_self, List.length_map, w, eq_true h3, hs, ht, GSym.row, List.getElem?_map, Option.map_some, ofDs, List.map_cons, List.map_nil]
def inF (g : Gram) (p : GProd) (x : Int × Int) : Bool := (occF p x.1).2 && (decide (0 ≤ x.2) && (decide (x.2 < countF g (occF p x.1).1) && decide (isInhF g (occF p x.1).1 x.2 = decide (x.1 = 0))))
theorem in_ok (A : AE E) {g : Gram} (hg : g.Ok) {p : GProd} (hp : p.Ok) (x : Int × Int) : lcall E 214 [g.arg, p.arg, pairArg x.1 x.2] [] = some (.d (.b (inF g p x)), []) := by
 have c1 := occ_ok A hp x.1
 have c2 := count_ok A hg (occF p x.1).1
 have c3 := isInh_ok A g (occF p x.1).1 x.2
 refine call_q A.e214 ?_
 unfold inF
 generalize occF p x.1 = o at *
 obtain ⟨n, ok⟩ := o
 simp only at c1 c2 c3 ⊢
 cases ok
 ·simp only [evAll, Nat.reduceBEq, ↓reduceIte, Nat.reduceEqDiff, Nat.reduceAdd, Nat.reduceLeDiff, Nat.reduceSub, Nat.reduceLT, reduceCtorEq, Int.reduceEq, Int.reduceLT, Int.reduceLE, Int.reduceNeg, loopQ, Int.reduceToNat, Nat.reduceMul, List.range'_one, c214, c1]
  rfl
 ·by_cases h0 : 0 ≤ x.2
  ·by_cases h1 : x.2 < countF g n
   ·simp only [evAll, Nat.reduceBEq, ↓reduceIte, Nat.reduceEqDiff, Nat.reduceAdd, Nat.reduceLeDiff, Nat.reduceSub, Nat.reduceLT, reduceCtorEq, Int.reduceEq, Int.reduceLT, Int.reduceLE, Int.reduceNeg, loopQ, Int.reduceToNat, Nat.reduceMul, List.range'_one, c214, c1, c2, c3, eq_true h0, eq_true h1, ge_iff_le, decide_true]
    rfl
   ·simp only [evAll, Nat.reduceBEq, ↓reduceIte, Nat.reduceEqDiff, Nat.reduceAdd, Nat.reduceLeDiff, Nat.reduceSub, Nat.reduceLT, reduceCtorEq, Int.reduceEq, Int.reduceLT, Int.reduceLE, Int.reduceNeg, loopQ, Int.reduceToNat, Nat.reduceMul, List.range'_one, c214, c1, c2, eq_true h0, h1, ge_iff_le, decide_false, decide_true]
    rfl
  ·simp only [evAll, Nat.reduceBEq, ↓reduceIte, Nat.reduceEqDiff, Nat.reduceAdd, Nat.reduceLeDiff, Nat.reduceSub, Nat.reduceLT, reduceCtorEq, Int.reduceEq, Int.reduceLT, Int.reduceLE, Int.reduceNeg, loopQ, Int.reduceToNat, Nat.reduceMul, List.range'_one, c214, c1, h0, ge_iff_le, decide_false]
   rfl
theorem in1_ok (A : AE E) {g : Gram} (hg : g.Ok) {p : GProd} (hp : p.Ok) (x : Int × Int) : lcall E 213 [pairArg x.1 x.2, .d (.q g.cells 0), .d (.q p.cells 0)] [] = some (.d (.b (inF g p x)), []) := by
 have c1 := in_ok A hg hp x
 refine call_q A.e213 ?_
 simp only [evAll, Nat.reduceBEq, ↓reduceIte, Nat.reduceEqDiff, Nat.reduceAdd, Nat.reduceLeDiff, Nat.reduceSub, Nat.reduceLT, reduceCtorEq, Int.reduceEq, Int.reduceLT, Int.reduceLE, Int.reduceNeg, loopQ, Int.reduceToNat, Nat.reduceMul, List.range'_one, c213, c1, ofDs, List.map_cons, List.map_nil]
def takesF (op : Int) : Int := if op = 0 then 0 else if op = 1 then 0 else if op = 2 then 0 else if op = 3 then 0 else if op = 21 then 0 else if op = 22 then 0 else if op = 11 then 1 else if op = 15 then 1 else
 if op = 12 then 3 else if op = 16 then 3 else if op = 14 then -1 else if op > 3 ∧ op < 21 then 2 else -2
theorem takes_ok (A : AE E) (op : Int) : lcall E 236 [.d (.i .i64 op)] [] = some (.d (.i .i64 (takesF op)), []) := by
 refine call_q A.e236 ?_
 by_cases h0 : op = 0
 ·subst h0; simp only [evAll, Nat.reduceBEq, ↓reduceIte, Nat.reduceEqDiff, Nat.reduceAdd, Nat.reduceLeDiff, Nat.reduceSub, Nat.reduceLT, reduceCtorEq, Int.reduceEq, Int.reduceLT, Int.reduceLE, Int.reduceNeg, loopQ, Int.reduceToNat, Nat.reduceMul, List.range'_one, c236, takesF]
 by_cases h1 : op = 1
 ·subst h1; simp only [evAll, Nat.reduceBEq, ↓reduceIte, Nat.reduceEqDiff, Nat.reduceAdd, Nat.reduceLeDiff, Nat.reduceSub, Nat.reduceLT, reduceCtorEq, Int.reduceEq, Int.reduceLT, Int.reduceLE, Int.reduceNeg, loopQ, Int.reduceToNat, Nat.reduceMul, List.range'_one, c236, takesF]
 by_cases h2 : op = 2
 ·subst h2; simp only [evAll, Nat.reduceBEq, ↓reduceIte, Nat.reduceEqDiff, Nat.reduceAdd, Nat.reduceLeDiff, Nat.reduceSub, Nat.reduceLT, reduceCtorEq, Int.reduceEq, Int.reduceLT, Int.reduceLE, Int.reduceNeg, loopQ, Int.reduceToNat, Nat.reduceMul, List.range'_one, c236, takesF]
 by_cases h3 : op = 3
 ·subst h3; simp only [evAll, Nat.reduceBEq, ↓reduceIte, Nat.reduceEqDiff, Nat.reduceAdd, Nat.reduceLeDiff, Nat.reduceSub, Nat.reduceLT, reduceCtorEq, Int.reduceEq, Int.reduceLT, Int.reduceLE, Int.reduceNeg, loopQ, Int.reduceToNat, Nat.reduceMul, List.range'_one, c236, takesF]
 by_cases h21 : op = 21
 ·subst h21; simp only [evAll, Nat.reduceBEq, ↓reduceIte, Nat.reduceEqDiff, Nat.reduceAdd, Nat.reduceLeDiff, Nat.reduceSub, Nat.reduceLT, reduceCtorEq, Int.reduceEq, Int.reduceLT, Int.reduceLE, Int.reduceNeg, loopQ, Int.reduceToNat, Nat.reduceMul, List.range'_one, c236, takesF]
 by_cases h22 : op = 22
 ·subst h22; simp only [evAll, Nat.reduceBEq, ↓reduceIte, Nat.reduceEqDiff, Nat.reduceAdd, Nat.reduceLeDiff, Nat.reduceSub, Nat.reduceLT, reduceCtorEq, Int.reduceEq, Int.reduceLT, Int.reduceLE, Int.reduceNeg, loopQ, Int.reduceToNat, Nat.reduceMul, List.range'_one, c236, takesF]
 by_cases h11 : op = 11
 ·subst h11; simp only [evAll, Nat.reduceBEq, ↓reduceIte, Nat.reduceEqDiff, Nat.reduceAdd, Nat.reduceLeDiff, Nat.reduceSub, Nat.reduceLT, reduceCtorEq, Int.reduceEq, Int.reduceLT, Int.reduceLE, Int.reduceNeg, loopQ, Int.reduceToNat, Nat.reduceMul, List.range'_one, c236, takesF]
 by_cases h15 : op = 15
 ·subst h15; simp only [evAll, Nat.reduceBEq, ↓reduceIte, Nat.reduceEqDiff, Nat.reduceAdd, Nat.reduceLeDiff, Nat.reduceSub, Nat.reduceLT, reduceCtorEq, Int.reduceEq, Int.reduceLT, Int.reduceLE, Int.reduceNeg, loopQ, Int.reduceToNat, Nat.reduceMul, List.range'_one, c236, takesF]
 by_cases h12 : op = 12
 ·subst h12; simp only [evAll, Nat.reduceBEq, ↓reduceIte, Nat.reduceEqDiff, Nat.reduceAdd, Nat.reduceLeDiff, Nat.reduceSub, Nat.reduceLT, reduceCtorEq, Int.reduceEq, Int.reduceLT, Int.reduceLE, Int.reduceNeg, loopQ, Int.reduceToNat, Nat.reduceMul, List.range'_one, c236, takesF]
 by_cases h16 : op = 16
 ·subst h16; simp only [evAll, Nat.reduceBEq, ↓reduceIte, Nat.reduceEqDiff, Nat.reduceAdd, Nat.reduceLeDiff, Nat.reduceSub, Nat.reduceLT, reduceCtorEq, Int.reduceEq, Int.reduceLT, Int.reduceLE, Int.reduceNeg, loopQ, Int.reduceToNat, Nat.reduceMul, List.range'_one, c236, takesF]
 by_cases h14 : op = 14
 ·subst h14; simp only [evAll, Nat.reduceBEq, ↓reduceIte, Nat.reduceEqDiff, Nat.reduceAdd, Nat.reduceLeDiff, Nat.reduceSub, Nat.reduceLT, reduceCtorEq, Int.reduceEq, Int.reduceLT, Int.reduceLE, Int.reduceNeg, loopQ, Int.reduceToNat, Nat.reduceMul, List.range'_one, c236, takesF]
 by_cases g1 : op > 3
 ·by_cases g2 : op < 21
  ·simp only [evAll, Nat.reduceBEq, ↓reduceIte, Nat.reduceEqDiff, Nat.reduceAdd, Nat.reduceLeDiff, Nat.reduceSub, Nat.reduceLT, reduceCtorEq, Int.reduceEq, Int.reduceLT, Int.reduceLE, Int.reduceNeg, loopQ, Int.reduceToNat, Nat.reduceMul, List.range'_one, c236, takesF, h0, h1, h2, h3, h21, h22, h11, h15, h12, h16, h14, eq_true g1, eq_true g2, and_self]
  ·simp only [evAll, Nat.reduceBEq, ↓reduceIte, Nat.reduceEqDiff, Nat.reduceAdd, Nat.reduceLeDiff, Nat.reduceSub, Nat.reduceLT, reduceCtorEq, Int.reduceEq, Int.reduceLT, Int.reduceLE, Int.reduceNeg, loopQ, Int.reduceToNat, Nat.reduceMul, List.range'_one, c236, takesF, h0, h1, h2, h3, h21, h22, h11, h15, h12, h16, h14, eq_true g1, g2, and_false]
 ·simp only [evAll, Nat.reduceBEq, ↓reduceIte, Nat.reduceEqDiff, Nat.reduceAdd, Nat.reduceLeDiff, Nat.reduceSub, Nat.reduceLT, reduceCtorEq, Int.reduceEq, Int.reduceLT, Int.reduceLE, Int.reduceNeg, loopQ, Int.reduceToNat, Nat.reduceMul, List.range'_one, c236, takesF, h0, h1, h2, h3, h21, h22, h11, h15, h12, h16, h14, g1, false_and]
def zeroF (v : GVal) : Bool := decide (v.kind = 0) && (decide (v.i = 0) && (decide (v.s = []) && decide ((v.l.length : Int) = 0)))
theorem zero_ok (A : AE E) (v : GVal) : lcall E 241 [v.arg] [] = some (.d (.b (zeroF v)), []) := by
 refine call_q A.e241 ?_
 unfold zeroF
 by_cases h0 : v.kind = 0
 ·by_cases h1 : v.i = 0
  ·by_cases h2 : v.s = []
   ·simp only [evAll, Nat.reduceBEq, ↓reduceIte, Nat.reduceEqDiff, Nat.reduceAdd, Nat.reduceLeDiff, Nat.reduceSub, Nat.reduceLT, reduceCtorEq, Int.reduceEq, Int.reduceLT, Int.reduceLE, Int.reduceNeg, loopQ, Int.reduceToNat, Nat.reduceMul, List.range'_one, c241, eq_true h0, eq_true h1, h2, decide_true, gvalRows_eq, List.length_map]
   ·simp only [evAll, Nat.reduceBEq, ↓reduceIte, Nat.reduceEqDiff, Nat.reduceAdd, Nat.reduceLeDiff, Nat.reduceSub, Nat.reduceLT, reduceCtorEq, Int.reduceEq, Int.reduceLT, Int.reduceLE, Int.reduceNeg, loopQ, Int.reduceToNat, Nat.reduceMul, List.range'_one, c241, eq_true h0, eq_true h1, h2, decide_true, decide_false]
  ·simp only [evAll, Nat.reduceBEq, ↓reduceIte, Nat.reduceEqDiff, Nat.reduceAdd, Nat.reduceLeDiff, Nat.reduceSub, Nat.reduceLT, reduceCtorEq, Int.reduceEq, Int.reduceLT, Int.reduceLE, Int.reduceNeg, loopQ, Int.reduceToNat, Nat.reduceMul, List.range'_one, c241, eq_true h0, h1, decide_true, decide_false]
 ·simp only [evAll, Nat.reduceBEq, ↓reduceIte, Nat.reduceEqDiff, Nat.reduceAdd, Nat.reduceLeDiff, Nat.reduceSub, Nat.reduceLT, reduceCtorEq, Int.reduceEq, Int.reduceLT, Int.reduceLE, Int.reduceNeg, loopQ, Int.reduceToNat, Nat.reduceMul, List.range'_one, c241, h0, decide_false]
def fieldsF (mv : GVal → Bool) (op : Int) (v : GVal) (occ attr : Int) : Bool :=
 if op = 0 then decide (v.kind ≠ 7) && (mv v && (decide (occ = 0) && decide (attr = 0))) else
  zeroF v && (decide (0 ≤ occ) && (decide (occ ≤ if op = 1 then 5 else if op = 2 then 5 else if op = 3 then 5 else 0) && (decide (0 ≤ attr) && decide (attr ≤ if op = 1 then 7 else 0))))
theorem fields_ok (A : AE E) {mv : GVal → Bool} (e : Exp) (hv : e.op = 0 → lcall E 111 [e.v.arg] [] = some (.d (.b (mv e.v)), [])) : lcall E 237 [e.arg] [] = some (.d (.b (fieldsF mv e.op e.v e.occ e.attr)), []) := by
 have c1 := zero_ok A e.v
 refine call_q A.e237 ?_
 unfold fieldsF
 by_cases h0 : e.op = 0
 ·have c2 := hv h0
  rw [if_pos h0]
  by_cases h1 : e.v.kind = 7
  ·have h1' : (e.v.kind != 7) = false := by simp [h1]
   simp only [evAll, Nat.reduceBEq, ↓reduceIte, Nat.reduceEqDiff, Nat.reduceAdd, Nat.reduceLeDiff, Nat.reduceSub, Nat.reduceLT, reduceCtorEq, Int.reduceEq, Int.reduceLT, Int.reduceLE, Int.reduceNeg, loopQ, Int.reduceToNat, Nat.reduceMul, List.range'_one, c237, eq_true h0, h1', h1, ne_eq, not_true_eq_false, decide_false]
  ·have h1' : (e.v.kind != 7) = true := by simp [h1]
   cases h2 : mv e.v
   ·rw [h2] at c2
    simp only [evAll, Nat.reduceBEq, ↓reduceIte, Nat.reduceEqDiff, Nat.reduceAdd, Nat.reduceLeDiff, Nat.reduceSub, Nat.reduceLT, reduceCtorEq, Int.reduceEq, Int.reduceLT, Int.reduceLE, Int.reduceNeg, loopQ, Int.reduceToNat, Nat.reduceMul, List.range'_one, c237, eq_true h0, h1', h1, c2, ne_eq, not_false_eq_true, decide_true]
   ·rw [h2] at c2
    by_cases h3 : e.occ = 0
    ·simp only [evAll, Nat.reduceBEq, ↓reduceIte, Nat.reduceEqDiff, Nat.reduceAdd, Nat.reduceLeDiff, Nat.reduceSub, Nat.reduceLT, reduceCtorEq, Int.reduceEq, Int.reduceLT, Int.reduceLE, Int.reduceNeg, loopQ, Int.reduceToNat, Nat.reduceMul, List.range'_one, c237, eq_true h0, h1', h1, c2, eq_true h3, ne_eq, not_false_eq_true, decide_true]
    ·simp only [evAll, Nat.reduceBEq, ↓reduceIte, Nat.reduceEqDiff, Nat.reduceAdd, Nat.reduceLeDiff, Nat.reduceSub, Nat.reduceLT, reduceCtorEq, Int.reduceEq, Int.reduceLT, Int.reduceLE, Int.reduceNeg, loopQ, Int.reduceToNat, Nat.reduceMul, List.range'_one, c237, eq_true h0, h1', h1, c2, h3, ne_eq, not_false_eq_true, decide_true, decide_false]
 ·rw [if_neg h0]
  cases hz : zeroF e.v
  ·rw [hz] at c1
   by_cases k1 : e.op = 1
   ·simp only [evAll, Nat.reduceBEq, ↓reduceIte, Nat.reduceEqDiff, Nat.reduceAdd, Nat.reduceLeDiff, Nat.reduceSub, Nat.reduceLT, reduceCtorEq, Int.reduceEq, Int.reduceLT, Int.reduceLE, Int.reduceNeg, loopQ, Int.reduceToNat, Nat.reduceMul, List.range'_one, c237, h0, c1, eq_true k1]
   by_cases k2 : e.op = 2
   ·simp only [evAll, Nat.reduceBEq, ↓reduceIte, Nat.reduceEqDiff, Nat.reduceAdd, Nat.reduceLeDiff, Nat.reduceSub, Nat.reduceLT, reduceCtorEq, Int.reduceEq, Int.reduceLT, Int.reduceLE, Int.reduceNeg, loopQ, Int.reduceToNat, Nat.reduceMul, List.range'_one, c237, h0, c1, k1, eq_true k2]
   by_cases k3 : e.op = 3
   ·simp only [evAll, Nat.reduceBEq, ↓reduceIte, Nat.reduceEqDiff, Nat.reduceAdd, Nat.reduceLeDiff, Nat.reduceSub, Nat.reduceLT, reduceCtorEq, Int.reduceEq, Int.reduceLT, Int.reduceLE, Int.reduceNeg, loopQ, Int.reduceToNat, Nat.reduceMul, List.range'_one, c237, h0, c1, k1, k2, eq_true k3]
   simp only [evAll, Nat.reduceBEq, ↓reduceIte, Nat.reduceEqDiff, Nat.reduceAdd, Nat.reduceLeDiff, Nat.reduceSub, Nat.reduceLT, reduceCtorEq, Int.reduceEq, Int.reduceLT, Int.reduceLE, Int.reduceNeg, loopQ, Int.reduceToNat, Nat.reduceMul, List.range'_one, c237, h0, c1, k1, k2, k3]
  ·rw [hz] at c1
   by_cases o1 : 0 ≤ e.occ
   ·by_cases a1 : 0 ≤ e.attr
    ·by_cases k1 : e.op = 1
     ·by_cases o2 : e.occ ≤ 5
      ·simp only [evAll, Nat.reduceBEq, ↓reduceIte, Nat.reduceEqDiff, Nat.reduceAdd, Nat.reduceLeDiff, Nat.reduceSub, Nat.reduceLT, reduceCtorEq, Int.reduceEq, Int.reduceLT, Int.reduceLE, Int.reduceNeg, loopQ, Int.reduceToNat, Nat.reduceMul, List.range'_one, c237, h0, c1, eq_true k1, eq_true o1, eq_true a1, eq_true o2, ge_iff_le, decide_true]
      ·simp only [evAll, Nat.reduceBEq, ↓reduceIte, Nat.reduceEqDiff, Nat.reduceAdd, Nat.reduceLeDiff, Nat.reduceSub, Nat.reduceLT, reduceCtorEq, Int.reduceEq, Int.reduceLT, Int.reduceLE, Int.reduceNeg, loopQ, Int.reduceToNat, Nat.reduceMul, List.range'_one, c237, h0, c1, eq_true k1, eq_true o1, eq_true a1, o2, ge_iff_le, decide_true, decide_false]
     ·by_cases k2 : e.op = 2
      ·by_cases o2 : e.occ ≤ 5
       ·simp only [evAll, Nat.reduceBEq, ↓reduceIte, Nat.reduceEqDiff, Nat.reduceAdd, Nat.reduceLeDiff, Nat.reduceSub, Nat.reduceLT, reduceCtorEq, Int.reduceEq, Int.reduceLT, Int.reduceLE, Int.reduceNeg, loopQ, Int.reduceToNat, Nat.reduceMul, List.range'_one, c237, h0, c1, k1, eq_true k2, eq_true o1, eq_true a1, eq_true o2, ge_iff_le, decide_true]
       ·simp only [evAll, Nat.reduceBEq, ↓reduceIte, Nat.reduceEqDiff, Nat.reduceAdd, Nat.reduceLeDiff, Nat.reduceSub, Nat.reduceLT, reduceCtorEq, Int.reduceEq, Int.reduceLT, Int.reduceLE, Int.reduceNeg, loopQ, Int.reduceToNat, Nat.reduceMul, List.range'_one, c237, h0, c1, k1, eq_true k2, eq_true o1, eq_true a1, o2, ge_iff_le, decide_true, decide_false]
      ·by_cases k3 : e.op = 3
       ·by_cases o2 : e.occ ≤ 5
        ·simp only [evAll, Nat.reduceBEq, ↓reduceIte, Nat.reduceEqDiff, Nat.reduceAdd, Nat.reduceLeDiff, Nat.reduceSub, Nat.reduceLT, reduceCtorEq, Int.reduceEq, Int.reduceLT, Int.reduceLE, Int.reduceNeg, loopQ, Int.reduceToNat, Nat.reduceMul, List.range'_one, c237, h0, c1, k1, k2, eq_true k3, eq_true o1, eq_true a1, eq_true o2, ge_iff_le, decide_true]
        ·simp only [evAll, Nat.reduceBEq, ↓reduceIte, Nat.reduceEqDiff, Nat.reduceAdd, Nat.reduceLeDiff, Nat.reduceSub, Nat.reduceLT, reduceCtorEq, Int.reduceEq, Int.reduceLT, Int.reduceLE, Int.reduceNeg, loopQ, Int.reduceToNat, Nat.reduceMul, List.range'_one, c237, h0, c1, k1, k2, eq_true k3, eq_true o1, eq_true a1, o2, ge_iff_le, decide_true, decide_false]
       ·by_cases o2 : e.occ ≤ 0
        ·simp only [evAll, Nat.reduceBEq, ↓reduceIte, Nat.reduceEqDiff, Nat.reduceAdd, Nat.reduceLeDiff, Nat.reduceSub, Nat.reduceLT, reduceCtorEq, Int.reduceEq, Int.reduceLT, Int.reduceLE, Int.reduceNeg, loopQ, Int.reduceToNat, Nat.reduceMul, List.range'_one, c237, h0, c1, k1, k2, k3, eq_true o1, eq_true a1, eq_true o2, ge_iff_le, decide_true]
        ·simp only [evAll, Nat.reduceBEq, ↓reduceIte, Nat.reduceEqDiff, Nat.reduceAdd, Nat.reduceLeDiff, Nat.reduceSub, Nat.reduceLT, reduceCtorEq, Int.reduceEq, Int.reduceLT, Int.reduceLE, Int.reduceNeg, loopQ, Int.reduceToNat, Nat.reduceMul, List.range'_one, c237, h0, c1, k1, k2, k3, eq_true o1, eq_true a1, o2, ge_iff_le, decide_true, decide_false]
    ·by_cases k1 : e.op = 1
     ·by_cases o2 : e.occ ≤ 5
      ·simp only [evAll, Nat.reduceBEq, ↓reduceIte, Nat.reduceEqDiff, Nat.reduceAdd, Nat.reduceLeDiff, Nat.reduceSub, Nat.reduceLT, reduceCtorEq, Int.reduceEq, Int.reduceLT, Int.reduceLE, Int.reduceNeg, loopQ, Int.reduceToNat, Nat.reduceMul, List.range'_one, c237, h0, c1, eq_true k1, eq_true o1, a1, eq_true o2, ge_iff_le, decide_true, decide_false]
      ·simp only [evAll, Nat.reduceBEq, ↓reduceIte, Nat.reduceEqDiff, Nat.reduceAdd, Nat.reduceLeDiff, Nat.reduceSub, Nat.reduceLT, reduceCtorEq, Int.reduceEq, Int.reduceLT, Int.reduceLE, Int.reduceNeg, loopQ, Int.reduceToNat, Nat.reduceMul, List.range'_one, c237, h0, c1, eq_true k1, eq_true o1, a1, o2, ge_iff_le, decide_true, decide_false]
     ·by_cases k2 : e.op = 2
      ·by_cases o2 : e.occ ≤ 5
       ·simp only [evAll, Nat.reduceBEq, ↓reduceIte, Nat.reduceEqDiff, Nat.reduceAdd, Nat.reduceLeDiff, Nat.reduceSub, Nat.reduceLT, reduceCtorEq, Int.reduceEq, Int.reduceLT, Int.reduceLE, Int.reduceNeg, loopQ, Int.reduceToNat, Nat.reduceMul, List.range'_one, c237, h0, c1, k1, eq_true k2, eq_true o1, a1, eq_true o2, ge_iff_le, decide_true, decide_false]
       ·simp only [evAll, Nat.reduceBEq, ↓reduceIte, Nat.reduceEqDiff, Nat.reduceAdd, Nat.reduceLeDiff, Nat.reduceSub, Nat.reduceLT, reduceCtorEq, Int.reduceEq, Int.reduceLT, Int.reduceLE, Int.reduceNeg, loopQ, Int.reduceToNat, Nat.reduceMul, List.range'_one, c237, h0, c1, k1, eq_true k2, eq_true o1, a1, o2, ge_iff_le, decide_true, decide_false]
      ·by_cases k3 : e.op = 3
       ·by_cases o2 : e.occ ≤ 5
        ·simp only [evAll, Nat.reduceBEq, ↓reduceIte, Nat.reduceEqDiff, Nat.reduceAdd, Nat.reduceLeDiff, Nat.reduceSub, Nat.reduceLT, reduceCtorEq, Int.reduceEq, Int.reduceLT, Int.reduceLE, Int.reduceNeg, loopQ, Int.reduceToNat, Nat.reduceMul, List.range'_one, c237, h0, c1, k1, k2, eq_true k3, eq_true o1, a1, eq_true o2, ge_iff_le, decide_true, decide_false]
        ·simp only [evAll, Nat.reduceBEq, ↓reduceIte, Nat.reduceEqDiff, Nat.reduceAdd, Nat.reduceLeDiff, Nat.reduceSub, Nat.reduceLT, reduceCtorEq, Int.reduceEq, Int.reduceLT, Int.reduceLE, Int.reduceNeg, loopQ, Int.reduceToNat, Nat.reduceMul, List.range'_one, c237, h0, c1, k1, k2, eq_true k3, eq_true o1, a1, o2, ge_iff_le, decide_true, decide_false]
       ·by_cases o2 : e.occ ≤ 0
        ·simp only [evAll, Nat.reduceBEq, ↓reduceIte, Nat.reduceEqDiff, Nat.reduceAdd, Nat.reduceLeDiff, Nat.reduceSub, Nat.reduceLT, reduceCtorEq, Int.reduceEq, Int.reduceLT, Int.reduceLE, Int.reduceNeg, loopQ, Int.reduceToNat, Nat.reduceMul, List.range'_one, c237, h0, c1, k1, k2, k3, eq_true o1, a1, eq_true o2, ge_iff_le, decide_true, decide_false]
        ·simp only [evAll, Nat.reduceBEq, ↓reduceIte, Nat.reduceEqDiff, Nat.reduceAdd, Nat.reduceLeDiff, Nat.reduceSub, Nat.reduceLT, reduceCtorEq, Int.reduceEq, Int.reduceLT, Int.reduceLE, Int.reduceNeg, loopQ, Int.reduceToNat, Nat.reduceMul, List.range'_one, c237, h0, c1, k1, k2, k3, eq_true o1, a1, o2, ge_iff_le, decide_true, decide_false]
   ·by_cases k1 : e.op = 1
    ·simp only [evAll, Nat.reduceBEq, ↓reduceIte, Nat.reduceEqDiff, Nat.reduceAdd, Nat.reduceLeDiff, Nat.reduceSub, Nat.reduceLT, reduceCtorEq, Int.reduceEq, Int.reduceLT, Int.reduceLE, Int.reduceNeg, loopQ, Int.reduceToNat, Nat.reduceMul, List.range'_one, c237, h0, c1, eq_true k1, o1, ge_iff_le, decide_false]
    ·by_cases k2 : e.op = 2
     ·simp only [evAll, Nat.reduceBEq, ↓reduceIte, Nat.reduceEqDiff, Nat.reduceAdd, Nat.reduceLeDiff, Nat.reduceSub, Nat.reduceLT, reduceCtorEq, Int.reduceEq, Int.reduceLT, Int.reduceLE, Int.reduceNeg, loopQ, Int.reduceToNat, Nat.reduceMul, List.range'_one, c237, h0, c1, k1, eq_true k2, o1, ge_iff_le, decide_false]
     ·by_cases k3 : e.op = 3
      ·simp only [evAll, Nat.reduceBEq, ↓reduceIte, Nat.reduceEqDiff, Nat.reduceAdd, Nat.reduceLeDiff, Nat.reduceSub, Nat.reduceLT, reduceCtorEq, Int.reduceEq, Int.reduceLT, Int.reduceLE, Int.reduceNeg, loopQ, Int.reduceToNat, Nat.reduceMul, List.range'_one, c237, h0, c1, k1, k2, eq_true k3, o1, ge_iff_le, decide_false]
      ·simp only [evAll, Nat.reduceBEq, ↓reduceIte, Nat.reduceEqDiff, Nat.reduceAdd, Nat.reduceLeDiff, Nat.reduceSub, Nat.reduceLT, reduceCtorEq, Int.reduceEq, Int.reduceLT, Int.reduceLE, Int.reduceNeg, loopQ, Int.reduceToNat, Nat.reduceMul, List.range'_one, c237, h0, c1, k1, k2, k3, o1, ge_iff_le, decide_false]
mutual
def mayE (mv : GVal → Bool) : Exp → Int → Bool
 | .mk op v occ attr args, deep => decide (1 ≤ deep) && (!decide (takesF op = -2) && ((decide (takesF op < 0) || decide ((args.length : Int) = takesF op)) && (decide ((args.length : Int) ≤ 4) && (fieldsF mv op v occ attr && mayAll mv args (deep - 1)))))
def mayAll (mv : GVal → Bool) : List Exp → Int → Bool
 | [], _ => true
 | x :: r, d => mayE mv x d && mayAll mv r d
end
theorem mayAll_any (mv : GVal → Bool) (d : Int) : ∀ (l : List Exp), (!l.any fun x => !mayE mv x d) = mayAll mv l d
 | [] => rfl
 | x :: r => by
  have := mayAll_any mv d r
  simp only [List.any_cons, mayAll, ← this, Bool.not_or, Bool.not_not]
theorem mayE_eq (mv : GVal → Bool) (e : Exp) (deep : Int) : mayE mv e deep = (decide (1 ≤ deep) && (!decide (takesF e.op = -2) && ((decide (takesF e.op < 0) || decide ((e.args.length : Int) = takesF e.op)) && (decide ((e.args.length : Int) ≤ 4) && (fieldsF mv e.op e.v e.occ e.attr && mayAll mv e.args (deep - 1)))))) := by
 cases e; simp only [mayE]; rfl
inductive AllV (P : GVal → Prop) : Exp → Prop where
 | mk {e : Exp} (hv : e.op = 0 → P e.v) (ha : ∀ x ∈ e.args, AllV P x) (hl : e.args.length ≤ 100000) : AllV P e
theorem arg_lt {x e : Exp} (h : x ∈ e.args) : sizeOf x < sizeOf e := by
 cases e with
 | mk o v oc at_ args =>
  have := List.sizeOf_lt_of_mem (show x ∈ args from h)
  simp only [Exp.mk.sizeOf_spec]
  omega
theorem may_ok (A : AE E) {mv : GVal → Bool} {P : GVal → Prop} (hv : ∀ v, P v → lcall E 111 [v.arg] [] = some (.d (.b (mv v)), [])) : ∀ (n : Nat) (e : Exp) (deep : Int), sizeOf e < n → AllV P e → 0 ≤ deep → deep ≤ 1000000 →
  lcall E 228 [e.arg, .d (.i .i64 deep)] [] = some (.d (.b (mayE mv e deep)), []) := by
 intro n
 induction n with
 | zero => intro e deep hs; omega
 | succ n ih =>
  intro e deep hs ha hd1 hd2
  cases ha with
  | mk hve hae hl =>
  have c1 := takes_ok A e.op
  have c2 := fields_ok A e (fun h => hv e.v (hve h))
  have wd : IntKind.i64.wrap (deep - 1) = deep - 1 := i64w (by omega) (by omega)
  refine call_q A.e228 ?_
  rw [mayE_eq]
  by_cases d : deep < 1
  ·have d' : ¬ 1 ≤ deep := by omega
   simp only [evAll, Nat.reduceBEq, ↓reduceIte, Nat.reduceEqDiff, Nat.reduceAdd, Nat.reduceLeDiff, Nat.reduceSub, Nat.reduceLT, reduceCtorEq, Int.reduceEq, Int.reduceLT, Int.reduceLE, Int.reduceNeg, loopQ, Int.reduceToNat, Nat.reduceMul, List.range'_one, c228, c1, eq_true d, d', decide_false]
  have d' : 1 ≤ deep := by omega
  have hp : ∀ x ∈ e.args, lcall E 238 (rowV true x.row :: ofDs [.q [.i .i64 deep] 0]) [] = some (.d (.b (!mayE mv x (deep - 1))), []) := fun x hx => by
   rw [exp_rowV]
   have c := ih x (deep - 1) (by have := arg_lt hx; omega) (hae x hx) (by omega) (by omega)
   show lcall E 238 [x.arg, .d (.q [.i .i64 deep] 0)] [] = _
   refine call_q A.e238 ?_
   simp only [evAll, Nat.reduceBEq, ↓reduceIte, Nat.reduceEqDiff, Nat.reduceAdd, Nat.reduceLeDiff, Nat.reduceSub, Nat.reduceLT, reduceCtorEq, Int.reduceEq, Int.reduceLT, Int.reduceLE, Int.reduceNeg, loopQ, Int.reduceToNat, Nat.reduceMul, List.range'_one, c238, wd, c]
  have c3 := cont_ok (E := E) (key := 229) (ki := 239) (sz := 8) (ag := true) A.e229 A.e239 (fun h => by cases h) (by omega) (fun x _ => by rw [exp_row]; rfl) hp
  by_cases t2 : takesF e.op = -2
  ·simp only [evAll, Nat.reduceBEq, ↓reduceIte, Nat.reduceEqDiff, Nat.reduceAdd, Nat.reduceLeDiff, Nat.reduceSub, Nat.reduceLT, reduceCtorEq, Int.reduceEq, Int.reduceLT, Int.reduceLE, Int.reduceNeg, loopQ, Int.reduceToNat, Nat.reduceMul, List.range'_one, c228, c1, d, eq_true d', eq_true t2, decide_true, decide_false, ne_eq, not_true_eq_false]
  by_cases t0 : takesF e.op ≥ 0
  ·have t0' : ¬ takesF e.op < 0 := by omega
   by_cases tl : (e.args.length : Int) = takesF e.op
   ·have tl' : ((e.args.length : Int) != takesF e.op) = false := by simp [tl]
    by_cases l4 : (e.args.length : Int) > 4
    ·have l4' : ¬ (e.args.length : Int) ≤ 4 := by omega
     simp only [evAll, Nat.reduceBEq, ↓reduceIte, Nat.reduceEqDiff, Nat.reduceAdd, Nat.reduceLeDiff, Nat.reduceSub, Nat.reduceLT, reduceCtorEq, Int.reduceEq, Int.reduceLT, Int.reduceLE, Int.reduceNeg, loopQ, Int.reduceToNat, Nat.reduceMul, List.range'_one, c228, c1, d, eq_true d', t2, eq_true t0, t0', tl', eq_true tl, eq_true l4, l4', decide_true, decide_false, ne_eq, not_false_eq_true, List.length_map]
    ·have l4' : (e.args.length : Int) ≤ 4 := by omega
     cases hf : fieldsF mv e.op e.v e.occ e.attr
     ·rw [hf] at c2
      simp only [evAll, Nat.reduceBEq, ↓reduceIte, Nat.reduceEqDiff, Nat.reduceAdd, Nat.reduceLeDiff, Nat.reduceSub, Nat.reduceLT, reduceCtorEq, Int.reduceEq, Int.reduceLT, Int.reduceLE, Int.reduceNeg, loopQ, Int.reduceToNat, Nat.reduceMul, List.range'_one, c228, c1, c2, d, eq_true d', t2, eq_true t0, t0', tl', eq_true tl, l4, eq_true l4', decide_true, decide_false, ne_eq, not_false_eq_true, List.length_map]
     ·rw [hf] at c2
      simp only [evAll, Nat.reduceBEq, ↓reduceIte, Nat.reduceEqDiff, Nat.reduceAdd, Nat.reduceLeDiff, Nat.reduceSub, Nat.reduceLT, reduceCtorEq, Int.reduceEq, Int.reduceLT, Int.reduceLE, Int.reduceNeg, loopQ, Int.reduceToNat, Nat.reduceMul, List.range'_one, c228, c1, c2, c3, d, eq_true d', t2, eq_true t0, t0', tl', eq_true tl, l4, eq_true l4', decide_true, decide_false, ne_eq, not_false_eq_true, List.length_map, mayAll_any]
   ·have tl' : ((e.args.length : Int) != takesF e.op) = true := by simp [tl]
    simp only [evAll, Nat.reduceBEq, ↓reduceIte, Nat.reduceEqDiff, Nat.reduceAdd, Nat.reduceLeDiff, Nat.reduceSub, Nat.reduceLT, reduceCtorEq, Int.reduceEq, Int.reduceLT, Int.reduceLE, Int.reduceNeg, loopQ, Int.reduceToNat, Nat.reduceMul, List.range'_one, c228, c1, d, eq_true d', t2, eq_true t0, t0', tl', tl, decide_true, decide_false, ne_eq, not_false_eq_true, List.length_map]
  ·have t0' : takesF e.op < 0 := by omega
   by_cases l4 : (e.args.length : Int) > 4
   ·have l4' : ¬ (e.args.length : Int) ≤ 4 := by omega
    simp only [evAll, Nat.reduceBEq, ↓reduceIte, Nat.reduceEqDiff, Nat.reduceAdd, Nat.reduceLeDiff, Nat.reduceSub, Nat.reduceLT, reduceCtorEq, Int.reduceEq, Int.reduceLT, Int.reduceLE, Int.reduceNeg, loopQ, Int.reduceToNat, Nat.reduceMul, List.range'_one, c228, c1, d, eq_true d', t2, t0, eq_true t0', eq_true l4, l4', decide_true, decide_false, ne_eq, not_false_eq_true, List.length_map]
   ·have l4' : (e.args.length : Int) ≤ 4 := by omega
    cases hf : fieldsF mv e.op e.v e.occ e.attr
    ·rw [hf] at c2
     simp only [evAll, Nat.reduceBEq, ↓reduceIte, Nat.reduceEqDiff, Nat.reduceAdd, Nat.reduceLeDiff, Nat.reduceSub, Nat.reduceLT, reduceCtorEq, Int.reduceEq, Int.reduceLT, Int.reduceLE, Int.reduceNeg, loopQ, Int.reduceToNat, Nat.reduceMul, List.range'_one, c228, c1, c2, d, eq_true d', t2, t0, eq_true t0', l4, eq_true l4', decide_true, decide_false, ne_eq, not_false_eq_true, List.length_map]
    ·rw [hf] at c2
     simp only [evAll, Nat.reduceBEq, ↓reduceIte, Nat.reduceEqDiff, Nat.reduceAdd, Nat.reduceLeDiff, Nat.reduceSub, Nat.reduceLT, reduceCtorEq, Int.reduceEq, Int.reduceLT, Int.reduceLE, Int.reduceNeg, loopQ, Int.reduceToNat, Nat.reduceMul, List.range'_one, c228, c1, c2, c3, d, eq_true d', t2, t0, eq_true t0', l4, eq_true l4', decide_true, decide_false, ne_eq, not_false_eq_true, List.length_map, mayAll_any]
theorem May_ok (A : AE E) {mv : GVal → Bool} {P : GVal → Prop} (hv : ∀ v, P v → lcall E 111 [v.arg] [] = some (.d (.b (mv v)), [])) {e : Exp} (h : AllV P e) : lcall E 210 [e.arg] [] = some (.d (.b (mayE mv e 12)), []) := by
 have c1 := may_ok A hv (sizeOf e + 1) e 12 (by omega) h (by omega) (by omega)
 refine call_q A.e210 ?_
 simp only [evAll, Nat.reduceBEq, ↓reduceIte, Nat.reduceEqDiff, Nat.reduceAdd, Nat.reduceLeDiff, Nat.reduceSub, Nat.reduceLT, reduceCtorEq, Int.reduceEq, Int.reduceLT, Int.reduceLE, Int.reduceNeg, loopQ, Int.reduceToNat, Nat.reduceMul, List.range'_one, c210, c1]
def badText (p : GProd) (op occ : Int) : Bool := (decide (op = 2) || decide (op = 3)) && (decide (occ < 1) || (decide (occ > p.right.length) || match p.right[(occ - 1).toNat]? with | some s => !s.tok | none => true))
mutual
def textsF (p : GProd) : Exp → Bool
 | .mk op v occ attr args => !badText p op occ && textsAll p args
def textsAll (p : GProd) : List Exp → Bool
 | [] => true
 | x :: r => textsF p x && textsAll p r
end
theorem textsAll_any (p : GProd) : ∀ (l : List Exp), (!l.any fun x => !textsF p x) = textsAll p l
 | [] => rfl
 | x :: r => by
  have := textsAll_any p r
  simp only [List.any_cons, textsAll, ← this, Bool.not_or, Bool.not_not]
theorem textsF_eq (p : GProd) (e : Exp) : textsF p e = (!badText p e.op e.occ && textsAll p e.args) := by
 cases e; simp only [textsF]; rfl
theorem texts_ok (A : AE E) {p : GProd} (hp : p.Ok) {P : GVal → Prop} : ∀ (n : Nat) (e : Exp), sizeOf e < n → AllV P e → lcall E 211 [p.arg, e.arg] [] = some (.d (.b (textsF p e)), []) := by
 have hr := hp.right
 intro n
 induction n with
 | zero => intro e hs; omega
 | succ n ih =>
  intro e hs ha
  cases ha with
  | mk hve hae hl =>
  have hp : ∀ x ∈ e.args, lcall E 230 (rowV true x.row :: ofDs [.q p.cells 0]) [] = some (.d (.b (!textsF p x)), []) := fun x hx => by
   rw [exp_rowV]
   have c := ih x (by have := arg_lt hx; omega) (hae x hx)
   show lcall E 230 [x.arg, .d (.q p.cells 0)] [] = _
   refine call_q A.e230 ?_
   simp only [evAll, Nat.reduceBEq, ↓reduceIte, Nat.reduceEqDiff, Nat.reduceAdd, Nat.reduceLeDiff, Nat.reduceSub, Nat.reduceLT, reduceCtorEq, Int.reduceEq, Int.reduceLT, Int.reduceLE, Int.reduceNeg, loopQ, Int.reduceToNat, Nat.reduceMul, List.range'_one, c230, c, ofDs, List.map_cons, List.map_nil]
  have c3 := cont_ok (E := E) (key := 229) (ki := 239) (sz := 8) (ag := true) A.e229 A.e239 (fun h => by cases h) (by omega) (fun x _ => by rw [exp_row]; rfl) hp
  refine call_q A.e211 ?_
  rw [textsF_eq]
  by_cases t : e.op = 2 ∨ e.op = 3
  ·have hop : (e.op = 2) ∨ (¬ e.op = 2 ∧ e.op = 3) := by omega
   by_cases o1 : e.occ < 1
   ·have hb : badText p e.op e.occ = true := by simp [badText, o1]; omega
    rcases hop with h2 | ⟨h2, h3⟩
    ·simp only [evAll, Nat.reduceBEq, ↓reduceIte, Nat.reduceEqDiff, Nat.reduceAdd, Nat.reduceLeDiff, Nat.reduceSub, Nat.reduceLT, reduceCtorEq, Int.reduceEq, Int.reduceLT, Int.reduceLE, Int.reduceNeg, loopQ, Int.reduceToNat, Nat.reduceMul, List.range'_one, c211, eq_true h2, eq_true o1, hb]
    ·simp only [evAll, Nat.reduceBEq, ↓reduceIte, Nat.reduceEqDiff, Nat.reduceAdd, Nat.reduceLeDiff, Nat.reduceSub, Nat.reduceLT, reduceCtorEq, Int.reduceEq, Int.reduceLT, Int.reduceLE, Int.reduceNeg, loopQ, Int.reduceToNat, Nat.reduceMul, List.range'_one, c211, h2, eq_true h3, eq_true o1, hb]
   ·by_cases o2 : e.occ > p.right.length
    ·have hb : badText p e.op e.occ = true := by simp [badText, o2]; omega
     rcases hop with h2 | ⟨h2, h3⟩
     ·simp only [evAll, Nat.reduceBEq, ↓reduceIte, Nat.reduceEqDiff, Nat.reduceAdd, Nat.reduceLeDiff, Nat.reduceSub, Nat.reduceLT, reduceCtorEq, Int.reduceEq, Int.reduceLT, Int.reduceLE, Int.reduceNeg, loopQ, Int.reduceToNat, Nat.reduceMul, List.range'_one, c211, eq_true h2, o1, eq_true o2, hb, List.length_map]
     ·simp only [evAll, Nat.reduceBEq, ↓reduceIte, Nat.reduceEqDiff, Nat.reduceAdd, Nat.reduceLeDiff, Nat.reduceSub, Nat.reduceLT, reduceCtorEq, Int.reduceEq, Int.reduceLT, Int.reduceLE, Int.reduceNeg, loopQ, Int.reduceToNat, Nat.reduceMul, List.range'_one, c211, h2, eq_true h3, o1, eq_true o2, hb, List.length_map]
    ·have w : IntKind.i64.wrap (e.occ - 1) = e.occ - 1 := i64w (by omega) (by omega)
     have h3 : 0 ≤ e.occ - 1 := by omega
     obtain ⟨s, hs, _⟩ := get_at (l := p.right) h3 (by omega)
     cases ht : s.tok
     ·have hb : badText p e.op e.occ = true := by unfold badText; rw [hs]; simp [ht]; exact t
      rcases hop with h2 | ⟨h2, h4⟩
      ·simp only [evAll, Nat.reduceBEq, ↓reduceIte, Nat.reduceEqDiff, Nat.reduceAdd, Nat.reduceLeDiff, Nat.reduceSub, Nat.reduceLT, reduceCtorEq, Int.reduceEq, Int.reduceLT, Int.reduceLE, Int.reduceNeg, loopQ, Int.reduceToNat, Nat.reduceMul, List.range'_one, c211, eq_true h2, o1, o2, hb, List.length_map, w, eq_true h3, hs, ht, GSym.row, List.getElem?_map, Option.map_some, ofDs, List.map_cons, List.map_nil]
      ·simp only [evAll, Nat.reduceBEq, ↓reduceIte, Nat.reduceEqDiff, Nat.reduceAdd, Nat.reduceLeDiff, Nat.reduceSub, Nat.reduceLT, reduceCtorEq, Int.reduceEq, Int.reduceLT, Int.reduceLE, Int.reduceNeg, loopQ, Int.reduceToNat, Nat.reduceMul, List.range'_one, c211, h2, eq_true h4, o1, o2, hb, List.length_map, w, eq_true h3, hs, ht, GSym.row, List.getElem?_map, Option.map_some, ofDs, List.map_cons, List.map_nil]
     ·have hb : badText p e.op e.occ = false := by unfold badText; rw [hs]; simp [ht]; omega
      rcases hop with h2 | ⟨h2, h4⟩
      ·simp only [evAll, Nat.reduceBEq, ↓reduceIte, Nat.reduceEqDiff, Nat.reduceAdd, Nat.reduceLeDiff, Nat.reduceSub, Nat.reduceLT, reduceCtorEq, Int.reduceEq, Int.reduceLT, Int.reduceLE, Int.reduceNeg, loopQ, Int.reduceToNat, Nat.reduceMul, List.range'_one, c211, eq_true h2, o1, o2, hb, List.length_map, w, eq_true h3, hs, ht, GSym.row, List.getElem?_map, Option.map_some, ofDs, List.map_cons, List.map_nil, c3, textsAll_any]
      ·simp only [evAll, Nat.reduceBEq, ↓reduceIte, Nat.reduceEqDiff, Nat.reduceAdd, Nat.reduceLeDiff, Nat.reduceSub, Nat.reduceLT, reduceCtorEq, Int.reduceEq, Int.reduceLT, Int.reduceLE, Int.reduceNeg, loopQ, Int.reduceToNat, Nat.reduceMul, List.range'_one, c211, h2, eq_true h4, o1, o2, hb, List.length_map, w, eq_true h3, hs, ht, GSym.row, List.getElem?_map, Option.map_some, ofDs, List.map_cons, List.map_nil, c3, textsAll_any]
  ·have h2 : ¬ e.op = 2 := by omega
   have h3 : ¬ e.op = 3 := by omega
   have hb : badText p e.op e.occ = false := by simp [badText, h2, h3]
   simp only [evAll, Nat.reduceBEq, ↓reduceIte, Nat.reduceEqDiff, Nat.reduceAdd, Nat.reduceLeDiff, Nat.reduceSub, Nat.reduceLT, reduceCtorEq, Int.reduceEq, Int.reduceLT, Int.reduceLE, Int.reduceNeg, loopQ, Int.reduceToNat, Nat.reduceMul, List.range'_one, c211, h2, h3, hb, c3, textsAll_any]
mutual
def refsF : Exp → List (Int × Int)
 | .mk op v occ attr args => (if op = 1 then [(occ, attr)] else []) ++ refsAllF args
def refsAllF : List Exp → List (Int × Int)
 | [] => []
 | x :: r => refsF x ++ refsAllF r
end
theorem refsF_eq (e : Exp) : refsF e = (if e.op = 1 then [(e.occ, e.attr)] else []) ++ refsAllF e.args := by
 cases e; simp only [refsF]; rfl
theorem refs_len {x : Exp} : ∀ {l : List Exp}, x ∈ l → (refsF x).length ≤ (refsAllF l).length
 | y :: r, h => by
  simp only [refsAllF, List.length_append]
  rcases List.mem_cons.1 h with rfl | h
  ·omega
  ·have := refs_len h; omega
theorem pair_app (a b : List (Int × Int)) : a.map pairRow ++ b.map pairRow = (a ++ b).map pairRow := by simp
def refsLoop : CCode := match c192.body with
 | .seq _ (.seq _ (.seq (.seq _ (.block _ (.loop _ c))) _)) => c
 | _ => .skip
set_option maxHeartbeats 1000000 in
theorem refs_loopA {l : List Exp} {x1 x2 x3 x4 x5 x6 x7 x8 : D} (hl : l.length ≤ 100000) (hc : ∀ x ∈ l, lcall E 192 [x.arg] [] = some (.d (.l 2 ((refsF x).map pairRow)), [])) {Q : Ex → St → Prop} : ∀ (m i : Nat) (out : List (Int × Int)), i + m = l.length → out.length + (refsAllF (l.drop i)).length ≤ 1000000 →
  (∀ tm, look tm 2 = .own 1 0 2 ((out ++ refsAllF (l.drop i)).map pairRow) → Q (.exit 0) ⟨tm, [some (.box [.d x1, .d x2, .d x3, .d x4, .d x5, .d x6, .d x7, .d x8]), some (.tok 0 2)]⟩) →
  LX E refsLoop ⟨[2, 17, 18, 19], [2], [], [], [], true⟩ 2 ⟨[(2, .own 1 0 2 (out.map pairRow)), (17, .d (.l 8 (l.map Exp.row))), (18, .d (.i .i64 l.length)), (19, .d (.i .i64 i))], [some (.box [.d x1, .d x2, .d x3, .d x4, .d x5, .d x6, .d x7, .d x8]), some (.tok 0 2)]⟩ Q := by
 intro m
 induction m with
 | zero =>
  intro i out hi ho hQ
  have hn : ¬ ((i : Int) < l.length) := by omega
  rw [List.drop_eq_nil_of_le (by omega)] at hQ
  simp only [refsAllF, List.append_nil] at hQ
  refine lx_step ?_
  simp only [evAll, Nat.reduceBEq, ↓reduceIte, Nat.reduceEqDiff, Nat.reduceAdd, Nat.reduceLeDiff, Nat.reduceSub, Nat.reduceLT, reduceCtorEq, Int.reduceEq, Int.reduceLT, Int.reduceLE, Int.reduceNeg, loopQ, Int.reduceToNat, Nat.reduceMul, List.range'_one, refsLoop, c192, hn]
  exact hQ _ rfl
 | succ m ih =>
  intro i out hi ho hQ
  have hy : (i : Int) < l.length := by omega
  have la : i < l.length := by omega
  have h0 : (0 : Int) ≤ i := by omega
  have ga : (l.map Exp.row)[i]? = some (Exp.row l[i]) := by rw [List.getElem?_map, List.getElem?_eq_getElem la]; rfl
  have w : IntKind.i64.wrap ((i : Int) + 1) = ((i + 1 : Nat) : Int) := by rw [i64w (by omega) (by omega)]; omega
  have c1 := hc _ (List.getElem_mem la)
  rw [List.drop_eq_getElem_cons la] at hQ ho
  simp only [refsAllF, List.length_append, ← List.append_assoc] at hQ ho
  generalize l[i] = x at *
  rw [exp_row] at ga
  have r2 : roomy (out.length + (refsF x).length) 16 = true := by unfold roomy; exact decide_eq_true (by omega)
  refine lx_step ?_
  simp only [evAll, Nat.reduceBEq, ↓reduceIte, Nat.reduceEqDiff, Nat.reduceAdd, Nat.reduceLeDiff, Nat.reduceSub, Nat.reduceLT, reduceCtorEq, Int.reduceEq, Int.reduceLT, Int.reduceLE, Int.reduceNeg, loopQ, Int.reduceToNat, Nat.reduceMul, List.range'_one, refsLoop, c192, eq_true hy, h0, ga, ofDs, List.map_cons, List.map_nil, c1, List.length_map, r2, pair_app, w]
  refine ⟨_, rfl, ih (i + 1) (out ++ refsF x) (by omega) (by rw [List.length_append]; omega) hQ⟩
set_option maxHeartbeats 1000000 in
theorem refs_loopB {l : List Exp} {x1 x2 x3 x4 x5 x6 x7 x8 : D} (hl : l.length ≤ 100000) (hc : ∀ x ∈ l, lcall E 192 [x.arg] [] = some (.d (.l 2 ((refsF x).map pairRow)), [])) {Q : Ex → St → Prop} : ∀ (m i : Nat) (out : List (Int × Int)), i + m = l.length → out.length + (refsAllF (l.drop i)).length ≤ 1000000 →
  (∀ tm, look tm 2 = .own 2 0 2 ((out ++ refsAllF (l.drop i)).map pairRow) → Q (.exit 0) ⟨tm, [some (.box [.d x1, .d x2, .d x3, .d x4, .d x5, .d x6, .d x7, .d x8]), some (.tok 0 2), some (.tok 0 2)]⟩) →
  LX E refsLoop ⟨[2, 17, 18, 19], [2], [], [], [], true⟩ 3 ⟨[(2, .own 2 0 2 (out.map pairRow)), (17, .d (.l 8 (l.map Exp.row))), (18, .d (.i .i64 l.length)), (19, .d (.i .i64 i))], [some (.box [.d x1, .d x2, .d x3, .d x4, .d x5, .d x6, .d x7, .d x8]), some (.tok 0 2), some (.tok 0 2)]⟩ Q := by
 intro m
 induction m with
 | zero =>
  intro i out hi ho hQ
  have hn : ¬ ((i : Int) < l.length) := by omega
  rw [List.drop_eq_nil_of_le (by omega)] at hQ
  simp only [refsAllF, List.append_nil] at hQ
  refine lx_step ?_
  simp only [evAll, Nat.reduceBEq, ↓reduceIte, Nat.reduceEqDiff, Nat.reduceAdd, Nat.reduceLeDiff, Nat.reduceSub, Nat.reduceLT, reduceCtorEq, Int.reduceEq, Int.reduceLT, Int.reduceLE, Int.reduceNeg, loopQ, Int.reduceToNat, Nat.reduceMul, List.range'_one, refsLoop, c192, hn]
  exact hQ _ rfl
 | succ m ih =>
  intro i out hi ho hQ
  have hy : (i : Int) < l.length := by omega
  have la : i < l.length := by omega
  have h0 : (0 : Int) ≤ i := by omega
  have ga : (l.map Exp.row)[i]? = some (Exp.row l[i]) := by rw [List.getElem?_map, List.getElem?_eq_getElem la]; rfl
  have w : IntKind.i64.wrap ((i : Int) + 1) = ((i + 1 : Nat) : Int) := by rw [i64w (by omega) (by omega)]; omega
  have c1 := hc _ (List.getElem_mem la)
  rw [List.drop_eq_getElem_cons la] at hQ ho
  simp only [refsAllF, List.length_append, ← List.append_assoc] at hQ ho
  generalize l[i] = x at *
  rw [exp_row] at ga
  have r2 : roomy (out.length + (refsF x).length) 16 = true := by unfold roomy; exact decide_eq_true (by omega)
  refine lx_step ?_
  simp only [evAll, Nat.reduceBEq, ↓reduceIte, Nat.reduceEqDiff, Nat.reduceAdd, Nat.reduceLeDiff, Nat.reduceSub, Nat.reduceLT, reduceCtorEq, Int.reduceEq, Int.reduceLT, Int.reduceLE, Int.reduceNeg, loopQ, Int.reduceToNat, Nat.reduceMul, List.range'_one, refsLoop, c192, eq_true hy, h0, ga, ofDs, List.map_cons, List.map_nil, c1, List.length_map, r2, pair_app, w]
  refine ⟨_, rfl, ih (i + 1) (out ++ refsF x) (by omega) (by rw [List.length_append]; omega) hQ⟩
theorem refs_ok (A : AE E) {P : GVal → Prop} : ∀ (n : Nat) (e : Exp), sizeOf e < n → AllV P e → (refsF e).length ≤ 1000000 → lcall E 192 [e.arg] [] = some (.d (.l 2 ((refsF e).map pairRow)), []) := by
 intro n
 induction n with
 | zero => intro e hs; omega
 | succ n ih =>
  intro e hs ha hlen
  cases ha with
  | mk hve hae hl =>
  rw [refsF_eq, List.length_append] at hlen
  have hc : ∀ x ∈ e.args, lcall E 192 [x.arg] [] = some (.d (.l 2 ((refsF x).map pairRow)), []) := fun x hx =>
   ih x (by have := arg_lt hx; omega) (hae x hx) (by have := refs_len hx; omega)
  refine call_q A.e192 ?_
  rw [refsF_eq]
  by_cases h1 : e.op = 1
  ·have r1 : roomy 1 16 = true := rfl
   rw [if_pos h1] at hlen ⊢
   simp only [evAll, Nat.reduceBEq, ↓reduceIte, Nat.reduceEqDiff, Nat.reduceAdd, Nat.reduceLeDiff, Nat.reduceSub, Nat.reduceLT, reduceCtorEq, Int.reduceEq, Int.reduceLT, Int.reduceLE, Int.reduceNeg, loopQ, Int.reduceToNat, Nat.reduceMul, List.range'_one, c192, eq_true h1, r1, List.length_map]
   refine refs_loopB (by omega) hc e.args.length 0 [(e.occ, e.attr)] (by omega) (by rw [List.drop_zero]; simpa using hlen) (fun tm h2 => ?_)
   simp only [evAll, Nat.reduceBEq, ↓reduceIte, Nat.reduceEqDiff, Nat.reduceAdd, Nat.reduceLeDiff, Nat.reduceSub, Nat.reduceLT, reduceCtorEq, Int.reduceEq, Int.reduceLT, Int.reduceLE, Int.reduceNeg, loopQ, Int.reduceToNat, Nat.reduceMul, List.range'_one, c192, h2, List.drop_zero]
  ·rw [if_neg h1] at hlen ⊢
   simp only [evAll, Nat.reduceBEq, ↓reduceIte, Nat.reduceEqDiff, Nat.reduceAdd, Nat.reduceLeDiff, Nat.reduceSub, Nat.reduceLT, reduceCtorEq, Int.reduceEq, Int.reduceLT, Int.reduceLE, Int.reduceNeg, loopQ, Int.reduceToNat, Nat.reduceMul, List.range'_one, c192, h1, List.length_map]
   refine refs_loopA (by omega) hc e.args.length 0 [] (by omega) (by rw [List.drop_zero]; simpa using hlen) (fun tm h2 => ?_)
   simp only [evAll, Nat.reduceBEq, ↓reduceIte, Nat.reduceEqDiff, Nat.reduceAdd, Nat.reduceLeDiff, Nat.reduceSub, Nat.reduceLT, reduceCtorEq, Int.reduceEq, Int.reduceLT, Int.reduceLE, Int.reduceNeg, loopQ, Int.reduceToNat, Nat.reduceMul, List.range'_one, c192, h2, List.drop_zero]
end Ab
