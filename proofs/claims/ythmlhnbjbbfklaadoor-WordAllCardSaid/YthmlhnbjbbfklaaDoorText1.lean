/-
 The words of a text.
-/
import Derived.Test.YthmlhnbjbbfklaaDoorText0
import Derived.Test.YthmlhnbjbbfklaaDoorPack3
import Derived.Test.YthmlhnbjbbfklaaDoorPack5
set_option linter.unusedSimpArgs false
set_option linter.unusedVariables false
set_option linter.unusedSectionVars false
set_option linter.unnecessarySimpa false
set_option maxRecDepth 100000
set_option maxHeartbeats 2000000
namespace Ab.Wd
open Go
variable {E : Nat → Option Fn}
theorem eqRowW (x : AW) : eqDs [CK.i, .s, .i, .i] (rowW x) (rowW x) = some true := by
 simp [rowW, eqDs, eqD]
def swLoop : CCode := match c449.body with
 | .seq _ (.seq _ (.seq (.seq _ (.block _ (.loop _ c))) _)) => c
 | _ => .skip
theorem sw_loop (w : WE E) {l : List AW} (hl : l.length ≤ 100000) {Q : Ex → St → Prop} (hQ : ∀ tm, Q (.exit 0) ⟨tm, []⟩) : ∀ (m i : Nat), i + m = l.length →
  LX E swLoop ⟨[0, 1, 5], [], [], [], [], true⟩ 0 ⟨[(0, .d (.l 4 (l.map rowW))), (1, .d (.l 4 (l.map rowW))), (5, .d (.i .i64 i))], []⟩ Q := by
 intro m
 induction m with
 | zero =>
  intro i hi
  have hn : ¬ ((i : Int) < (l.length : Nat)) := by omega
  refine lx_step ?_
  simp only [evAll, Nat.reduceBEq, ↓reduceIte, Nat.reduceEqDiff, Nat.reduceAdd, Nat.reduceLeDiff, Nat.reduceSub, Nat.reduceLT, reduceCtorEq, Int.reduceEq, Int.reduceLT, Int.reduceLE, Int.reduceNeg, loopQ, Int.reduceToNat, Nat.reduceMul, List.range'_one, swLoop, c449, Qf, hn]
  exact hQ _
 | succ m ih =>
  intro i hi
  have hy : (i : Int) < (l.length : Nat) := by omega
  have la : i < l.length := by omega
  have h0 : (0 : Int) ≤ i := by omega
  have ga : (l.map rowW)[i]? = some (rowW l[i]) := by rw [List.getElem?_map, Qd la]; rfl
  have wr : IntKind.i64.wrap ((i : Int) + 1) = ((i + 1 : Nat) : Int) := by rw [i64w (by omega) (by omega)]; omega
  have ih' := ih (i + 1) (by omega)
  obtain ⟨⟨⟨k, t, v⟩, p⟩, he⟩ : ∃ x : AW, l[i] = x := ⟨_, rfl⟩
  rw [he] at ga
  have ee := eqRowW ((k, t, v), p)
  simp only [rowW] at ga ee
  refine lx_step ?_
  simp only [evAll, Nat.reduceBEq, ↓reduceIte, Nat.reduceEqDiff, Nat.reduceAdd, Nat.reduceLeDiff, Nat.reduceSub, Nat.reduceLT, reduceCtorEq, Int.reduceEq, Int.reduceLT, Int.reduceLE, Int.reduceNeg, loopQ, Int.reduceToNat, Nat.reduceMul, List.range'_one, swLoop, c449, Qf, eq_true hy, h0, ga, ee, wr]
  exact ⟨by rfl, _, rfl, ih'⟩
theorem same_refl (w : WE E) {l : List AW} (hl : l.length ≤ 100000) : lcall E 449 [.d (.l 4 (l.map rowW)), .d (.l 4 (l.map rowW))] [] = some (.d (.b true), []) := by
 refine call_q w.e449 ?_
 simp only [evAll, Nat.reduceBEq, ↓reduceIte, Nat.reduceEqDiff, Nat.reduceAdd, Nat.reduceLeDiff, Nat.reduceSub, Nat.reduceLT, reduceCtorEq, Int.reduceEq, Int.reduceLT, Int.reduceLE, Int.reduceNeg, loopQ, Int.reduceToNat, Nat.reduceMul, List.range'_one, c449, Qf, bne_self_eq_false, not_true_eq_false, decide_false]
 refine sw_loop w hl (fun tm => ?_) l.length 0 (by omega)
 simp only [evAll, Nat.reduceBEq, ↓reduceIte, Nat.reduceEqDiff, Nat.reduceAdd, Nat.reduceLeDiff, Nat.reduceSub, Nat.reduceLT, reduceCtorEq, Int.reduceEq, Int.reduceLT, Int.reduceLE, Int.reduceNeg, loopQ, Int.reduceToNat, Nat.reduceMul, List.range'_one, c449]
theorem words_call (w : WE E) (s : List UInt8) : lcall E 450 [.d (.s s)] [] = some (.d (.f 452 [] [.q [.s s] 0]), []) := by
 refine call_q w.e450 ?_
 simp only [evAll, Nat.reduceBEq, ↓reduceIte, Nat.reduceEqDiff, Nat.reduceAdd, Nat.reduceLeDiff, Nat.reduceSub, Nat.reduceLT, reduceCtorEq, Int.reduceEq, Int.reduceLT, Int.reduceLE, Int.reduceNeg, loopQ, Int.reduceToNat, Nat.reduceMul, List.range'_one, c450]
abbrev lpW (j : Nat) : Option Obj := some (.lp j 10447 [.ptr 1 0, .ptr 2 0, .ptr 3 0])
abbrev bI (n : Int) : Option Obj := some (.box [.d (.i .i64 n)])
abbrev bB (b : Bool) : Option Obj := some (.box [.d (.b b)])
abbrev wV (k : Int) (t : List UInt8) (v p : Int) : V := .agg [.d (.i .i64 k), .d (.s t), .d (.i .i64 v), .d (.i .i64 p)]
theorem round_more (w : WE E) (l : List AW) (h4 : l.length < 400) (k : Int) (t : List UInt8) (v : Int) (p : Nat) :
  lcall E 10447 [.fn 10447 [.map 0] [], wV k t v p, .d (.b true)] [lpW 0, some (.box [.own 4 0 4 (l.map rowW)]), bI 0, bB false, some (.tok 0 4)] =
   some (.d (.b true), [lpW 0, some (.box [.own 4 1 4 ((l ++ [((k, t, v), p)]).map rowW)]), bI 0, bB false, some (.tok 1 4)]) := by
 have h4' : ¬ ((l.length : Nat) : Int) ≥ 400 := by omega
 have rm : roomy (l.length + 1) 40 = true := by unfold roomy; exact Ql (by omega)
 have ap : l.map rowW ++ [[D.i .i64 k, .s t, .i .i64 v, .i .i64 (p : Nat)]] = (l ++ [((k, t, v), p)]).map rowW := by rw [List.map_append]; rfl
 refine call_round w.e10447 (id := 0) rfl rfl rfl ?_
 simp only [evAll, Nat.reduceBEq, ↓reduceIte, Nat.reduceEqDiff, Nat.reduceAdd, Nat.reduceLeDiff, Nat.reduceSub, Nat.reduceLT, reduceCtorEq, Int.reduceEq, Int.reduceLT, Int.reduceLE, Int.reduceNeg, loopQ, Int.reduceToNat, Nat.reduceMul, List.range'_one, a10447, b10447, Qf, h4', rm, ap, List.length_cons, List.length_nil]
theorem round_bad (w : WE E) (l : List AW) (k : Int) (t : List UInt8) (v : Int) (p : Nat) (ok : Bool) (h : ok = false ∨ 400 ≤ l.length) :
  lcall E 10447 [.fn 10447 [.map 0] [], wV k t v p, .d (.b ok)] [lpW 0, some (.box [.own 4 0 4 (l.map rowW)]), bI 0, bB false, some (.tok 0 4)] =
   some (.d (.b false), [lpW 2, some (.box [.nil 4]), bI p, bB false, some (.tok 0 4)]) := by
 refine call_round w.e10447 (id := 0) rfl rfl rfl ?_
 cases ok with
 | false =>
  simp only [evAll, Nat.reduceBEq, ↓reduceIte, Nat.reduceEqDiff, Nat.reduceAdd, Nat.reduceLeDiff, Nat.reduceSub, Nat.reduceLT, reduceCtorEq, Int.reduceEq, Int.reduceLT, Int.reduceLE, Int.reduceNeg, loopQ, Int.reduceToNat, Nat.reduceMul, List.range'_one, a10447, b10447, Qf]
  rfl
 | true =>
  have h4' : ((l.length : Nat) : Int) ≥ 400 := by
   rcases h with h | h
   ·cases h
   ·omega
  simp only [evAll, Nat.reduceBEq, ↓reduceIte, Nat.reduceEqDiff, Nat.reduceAdd, Nat.reduceLeDiff, Nat.reduceSub, Nat.reduceLT, reduceCtorEq, Int.reduceEq, Int.reduceLT, Int.reduceLE, Int.reduceNeg, loopQ, Int.reduceToNat, Nat.reduceMul, List.range'_one, a10447, b10447, Qf, eq_true h4']
  rfl
theorem blank_idem : ∀ (b : Bool) (s : List UInt8), blankG false (s.drop (blankG b s)) = 0
 | b, [] => by cases b <;> rfl
 | false, c :: r => by
  simp only [blankG]
  by_cases h : isB c = true
  ·rw [if_pos h, List.drop_succ_cons]; exact blank_idem false r
  ·rw [if_neg h]
   by_cases h2 : c.toNat = 35
   ·rw [if_pos h2, List.drop_succ_cons]; exact blank_idem true r
   ·rw [if_neg h2, List.drop_zero]
    simp only [blankG]
    rw [if_neg h, if_neg h2]
 | true, c :: r => by
  simp only [blankG]
  split
  ·rw [List.drop_succ_cons]; exact blank_idem true r
  ·rw [List.drop_succ_cons]; exact blank_idem false r
def waLoop : CCode := match c452.body with
 | .seq _ (.block _ (.loop _ c)) => c
 | _ => .skip
theorem wa_loop (w : WE E) {s : List UInt8} (hs : s.length ≤ 1500) {R : List AW × Option Nat} {Q : Ex → St → Prop}
  (hx : ∀ l, R = (l, none) → ∀ tm, Q (.exit 0) ⟨tm, [lpW 0, some (.box [.own 4 0 4 (l.map rowW)]), bI 0, bB false, some (.tok 0 4)]⟩)
  (hr : ∀ l p, R = (l, some p) → ∀ tm (x : List (Option Obj)), Q .ret ⟨tm, lpW 2 :: some (.box [.nil 4]) :: bI p :: bB false :: some (.tok 1 4) :: x⟩) : ∀ (m i f : Nat) (l : List AW), i ≤ s.length → s.length < i + m → s.length < i + f → l.length ≤ i →
  blankG false (s.drop i) = 0 → joinW l (wordsG f i l.length (s.drop i)) = R →
  LX E waLoop ⟨[0, 1, 3], [], [], [], [], true⟩ 5 ⟨[(0, .fn 10447 [.map 0] []), (1, .d (.q [.s s] 0)), (3, .d (.i .i64 i))], [lpW 0, some (.box [.own 4 0 4 (l.map rowW)]), bI 0, bB false, some (.tok 0 4)]⟩ Q := by
 intro m
 induction m with
 | zero => intro i f l hi h; omega
 | succ m ih =>
  intro i f l hi hm hf hl hb0 hR
  by_cases hlt : i < s.length
  ·have hy : (i : Int) < s.length := by omega
   have h0 : (0 : Int) ≤ i := by omega
   have hd : s.drop i = s[i] :: s.drop (i + 1) := List.drop_eq_getElem_cons hlt
   have hln : (s.drop i).length = s.length - i := List.length_drop
   obtain ⟨f, rfl⟩ : ∃ f', f = f' + 1 := ⟨f - 1, by omega⟩
   have hle2 : (i : Int) ≤ (s.length : Nat) := by omega
   have htk : s.take s.length = s := List.take_length
   have c1 := one_ok w (c := s[i]) (r := s.drop (i + 1)) (by rw [← hd]; omega)
   rw [hd] at hb0
   rw [hd, wordsG_word hb0] at hR
   rw [← hd] at hR c1
   generalize s[i] = c at *
   refine lx_step ?_
   cases ho : oneF (s.drop i) with
   | none =>
    rw [ho] at hR
    have ec : oneV (s.drop i) = .tup [wV (badK (s.drop i)) [] 0 0, .d (.i .i64 0), .d (.b false)] := by simp only [oneV, ho]
    rw [ec] at c1
    have cr := round_bad w l (badK (s.drop i)) [] 0 i false (.inl rfl)
    simp only [evAll, Nat.reduceBEq, ↓reduceIte, Nat.reduceEqDiff, Nat.reduceAdd, Nat.reduceLeDiff, Nat.reduceSub, Nat.reduceLT, reduceCtorEq, Int.reduceEq, Int.reduceLT, Int.reduceLE, Int.reduceNeg, loopQ, Int.reduceToNat, Nat.reduceMul, List.range'_one, waLoop, c452, eq_true hy, h0, c1, eq_true hle2, Int.le_refl, and_self, and_true, true_and, Qk, htk, cr]
    exact hr _ _ hR.symm _ _
   | some p =>
    obtain ⟨⟨k, t, v⟩, n⟩ := p
    rw [ho] at hR
    have hn := oneF_le ho
    rw [hln] at hn
    have ec : oneV (s.drop i) = .tup [wV k t v 0, .d (.i .i64 n), .d (.b true)] := by simp only [oneV, ho]
    rw [ec] at c1
    by_cases h4 : 400 ≤ l.length
    ·simp only [h4, if_true] at hR
     have cr := round_bad w l k t v i true (.inr h4)
     simp only [evAll, Nat.reduceBEq, ↓reduceIte, Nat.reduceEqDiff, Nat.reduceAdd, Nat.reduceLeDiff, Nat.reduceSub, Nat.reduceLT, reduceCtorEq, Int.reduceEq, Int.reduceLT, Int.reduceLE, Int.reduceNeg, loopQ, Int.reduceToNat, Nat.reduceMul, List.range'_one, waLoop, c452, eq_true hy, h0, c1, eq_true hle2, Int.le_refl, and_self, and_true, true_and, Qk, htk, cr]
     exact hr _ _ hR.symm _ _
    ·simp only [h4, if_false] at hR
     have cr := round_more w l (by omega) k t v i
     have c3 := blank_ok w (s := s.drop (i + n)) (by rw [List.length_drop]; omega)
     have hbl := blankG_le false (s.drop (i + n))
     rw [List.length_drop] at hbl
     have hid := blank_idem false (s.drop (i + n))
     rw [List.drop_drop] at hid
     have hle3 : ((i + n : Nat) : Int) ≤ (s.length : Nat) := by omega
     have h03 : (0 : Int) ≤ ((i + n : Nat) : Int) := by omega
     have wn : IntKind.i64.wrap ((i : Int) + (n : Nat)) = ((i + n : Nat) : Int) := by rw [i64w (by omega) (by omega)]; omega
     have hsk : wordsG f (i + n) (l.length + 1) (s.drop (i + n)) = wordsG f (i + n + blankG false (s.drop (i + n))) (l.length + 1) (s.drop (i + n + blankG false (s.drop (i + n)))) := by
      rw [wordsG_skip (n := blankG false (s.drop (i + n))) (by rw [List.drop_drop, hid]; omega), List.drop_drop]
     rw [List.drop_drop, hsk] at hR
     generalize blankG false (s.drop (i + n)) = b at *
     have wb : IntKind.i64.wrap (((i + n : Nat) : Int) + (b : Nat)) = ((i + n + b : Nat) : Int) := by rw [i64w (by omega) (by omega)]; omega
     have ih' := ih (i + n + b) f (l ++ [((k, t, v), i)]) (by omega) (by omega) (by omega) (by simp; omega) hid (by
      rw [← hR, Qg, List.length_singleton]
      simp only [joinW, List.append_assoc, List.singleton_append])
     simp only [evAll, Nat.reduceBEq, ↓reduceIte, Nat.reduceEqDiff, Nat.reduceAdd, Nat.reduceLeDiff, Nat.reduceSub, Nat.reduceLT, reduceCtorEq, Int.reduceEq, Int.reduceLT, Int.reduceLE, Int.reduceNeg, loopQ, Int.reduceToNat, Nat.reduceMul, List.range'_one, waLoop, c452, eq_true hy, h0, c1, eq_true hle2, Int.le_refl, and_self, and_true, true_and, Qk, htk, cr, wn, h03, eq_true hle3, c3, wb]
     exact ⟨_, rfl, ih'⟩
  ·have hn : ¬ ((i : Int) < s.length) := by omega
   rw [List.drop_eq_nil_of_le (by omega), wordsG_nil, joinW, List.append_nil] at hR
   refine lx_step ?_
   simp only [evAll, Nat.reduceBEq, ↓reduceIte, Nat.reduceEqDiff, Nat.reduceAdd, Nat.reduceLeDiff, Nat.reduceSub, Nat.reduceLT, reduceCtorEq, Int.reduceEq, Int.reduceLT, Int.reduceLE, Int.reduceNeg, loopQ, Int.reduceToNat, Nat.reduceMul, List.range'_one, waLoop, c452, hn]
   exact hx _ hR.symm _
theorem wa_ok (w : WE E) {s : List UInt8} (hs : s.length ≤ 1500) : ∀ (l : List AW) (e : Option Nat), allF s = (l, e) →
  lcall E 452 [.fn 10447 [.map 0] [], .d (.q [.s s] 0)] [lpW 0, some (.box [.own 4 0 4 []]), bI 0, bB false, some (.tok 0 4)] =
   some (.tup [], match e with
    | none => [lpW 0, some (.box [.own 4 0 4 (l.map rowW)]), bI 0, bB false, some (.tok 0 4)]
    | some p => [lpW 2, some (.box [.nil 4]), bI p, bB false, some (.tok 1 4)]) := by
 intro l e hR
 refine call_q w.e452 ?_
 have c1 := blank_ok w (s := s) (by omega)
 have hbl := blankG_le false s
 have hid := blank_idem false s
 have e0 : allF s = wordsG (s.length + 1) (blankG false s) 0 (s.drop (blankG false s)) := by
  unfold allF
  rw [if_neg (by omega), wordsG_skip (n := blankG false s) (by rw [hid]; omega), Nat.zero_add]
 simp only [evAll, Nat.reduceBEq, ↓reduceIte, Nat.reduceEqDiff, Nat.reduceAdd, Nat.reduceLeDiff, Nat.reduceSub, Nat.reduceLT, reduceCtorEq, Int.reduceEq, Int.reduceLT, Int.reduceLE, Int.reduceNeg, loopQ, Int.reduceToNat, Nat.reduceMul, List.range'_one, c452, c1]
 generalize blankG false s = b at *
 refine wa_loop w hs (R := (l, e)) (fun l' hl tm => ?_) (fun l' p hl tm x => ?_) (s.length + 1) b (s.length + 1) [] (by omega) (by omega) (by omega) (by simp) hid (by rw [← hR, e0]; rfl)
 ·cases hl
  simp only [evAll, Nat.reduceBEq, ↓reduceIte, Nat.reduceEqDiff, Nat.reduceAdd, Nat.reduceLeDiff, Nat.reduceSub, Nat.reduceLT, reduceCtorEq, Int.reduceEq, Int.reduceLT, Int.reduceLE, Int.reduceNeg, loopQ, Int.reduceToNat, Nat.reduceMul, List.range'_one, c452]
 ·cases hl
  simp only [evAll, Nat.reduceBEq, ↓reduceIte, Nat.reduceEqDiff, Nat.reduceAdd, Nat.reduceLeDiff, Nat.reduceSub, Nat.reduceLT, reduceCtorEq, Int.reduceEq, Int.reduceLT, Int.reduceLE, Int.reduceNeg, loopQ, Int.reduceToNat, Nat.reduceMul, List.range'_one, c452]
theorem all_ok (w : WE E) (s : List UInt8) : lcall E 447 [.d (.s s)] [] = some (ansW (allF s), []) := by
 refine call_q w.e447 ?_
 by_cases h : (s.length : Int) > 1500
 ·have e : allF s = ([], some 0) := by unfold allF; rw [if_pos (by omega)]
  rw [e]
  simp only [evAll, Nat.reduceBEq, ↓reduceIte, Nat.reduceEqDiff, Nat.reduceAdd, Nat.reduceLeDiff, Nat.reduceSub, Nat.reduceLT, reduceCtorEq, Int.reduceEq, Int.reduceLT, Int.reduceLE, Int.reduceNeg, loopQ, Int.reduceToNat, Nat.reduceMul, List.range'_one, c447, eq_true h, ansW]
 have c1 := words_call w s
 obtain ⟨⟨l, e⟩, he⟩ : ∃ x, allF s = x := ⟨_, rfl⟩
 have c2 := wa_ok w (s := s) (by omega) l e he
 rw [he]
 cases e with
 | none =>
  simp only [evAll, Nat.reduceBEq, ↓reduceIte, Nat.reduceEqDiff, Nat.reduceAdd, Nat.reduceLeDiff, Nat.reduceSub, Nat.reduceLT, reduceCtorEq, Int.reduceEq, Int.reduceLT, Int.reduceLE, Int.reduceNeg, loopQ, Int.reduceToNat, Nat.reduceMul, List.range'_one, c447, h, c1, c2, ansW]
 | some p =>
  simp only [evAll, Nat.reduceBEq, ↓reduceIte, Nat.reduceEqDiff, Nat.reduceAdd, Nat.reduceLeDiff, Nat.reduceSub, Nat.reduceLT, reduceCtorEq, Int.reduceEq, Int.reduceLT, Int.reduceLE, Int.reduceNeg, loopQ, Int.reduceToNat, Nat.reduceMul, List.range'_one, c447, h, c1, c2, ansW]
end Ab.Wd
namespace Ab.Wd
open Go
variable {E : Nat → Option Fn}
theorem wordsG_len : ∀ (f at_ k : Nat) (s : List UInt8), (wordsG f at_ k s).1.length ≤ f
 | 0, _, _, _ => Nat.le_refl _
 | f + 1, at_, k, s => by
  simp only [wordsG]
  split
  ·simp
  ·split
   ·simp
   ·split
    ·simp
    ·have := wordsG_len f
     simp only [List.length_cons]
     exact Nat.succ_le_succ (this _ _ _)
theorem allF_len (s : List UInt8) : (allF s).1.length ≤ 1501 := by
 unfold allF
 split
 ·simp
 ·have := wordsG_len (s.length + 1) 0 0 s
  omega
def pcs : List (List UInt8) := [[97], [98, 50], [32], [55], [34], [92], [35], [10], [123], [61], [46], [59], [120, 32, 121], [34, 97, 32, 98, 34], [34, 92, 92, 34], [49, 50, 51, 52, 53, 54, 55, 56, 57, 48, 49, 50, 51, 52, 53, 54, 55], [126], [65]]
def pc (c : UInt8) : List UInt8 := pcs.getD (c.toNat % 18) []
def textF (p : List UInt8) : List UInt8 := (p.map pc).flatten
theorem pc_get (c : UInt8) : (pcs.map fun x => [D.s x])[c.toNat % 18]? = some [.s (pc c)] := by
 have h : c.toNat % 18 < pcs.length := Nat.mod_lt _ (by decide)
 rw [List.getElem?_map, Qd h]
 simp only [Option.map_some, pc, List.getD_eq_getElem?_getD, Qd h, Option.getD_some]
theorem pc_len (c : UInt8) : (pc c).length ≤ 17 := by
 have h : c.toNat % 18 < 18 := Nat.mod_lt _ (by decide)
 unfold pc
 generalize c.toNat % 18 = n at h
 have : ∀ n, n < 18 → (pcs.getD n []).length ≤ 17 := by decide
 exact this n h
abbrev tk1 : Option Obj := some (.tok 0 1)
def walLoop1 : CCode := match c442.body with
 | .seq _ (.seq _ (.seq _ (.seq _ (.seq _ (.seq (.seq _ (.block _ (.loop _ c))) _))))) => c
 | _ => .skip
def walLoop2 : CCode := match c442.body with
 | .seq _ (.seq _ (.seq _ (.seq _ (.seq _ (.seq _ (.seq _ (.seq (.seq _ (.block _ (.loop _ c))) _))))))) => c
 | _ => .skip
theorem wal_loop1 {s p : List UInt8} (hp : p.length ≤ 60) {Q : Ex → St → Prop} (hQ : ∀ tm, look tm 0 = .d (.s s) → look tm 6 = .d (.s (textF p)) → Q (.exit 0) ⟨tm, [tk1]⟩) : ∀ (m i : Nat) (t : List UInt8), i + m = p.length → t ++ textF (p.drop i) = textF p → t.length ≤ 17 * i →
  LX E walLoop1 ⟨[0, 1, 5, 6, 7], [], [], [], [], true⟩ 1 ⟨[(0, .d (.s s)), (1, .d (.l 1 (byteRow p))), (5, .own 0 0 1 (pcs.map fun x => [D.s x])), (6, .d (.s t)), (7, .d (.i .i64 i))], [tk1]⟩ Q := by
 intro m
 induction m with
 | zero =>
  intro i t hi ht hl
  have hn : ¬ ((i : Int) < (p.length : Nat)) := by omega
  rw [List.drop_eq_nil_of_le (by omega)] at ht
  simp only [textF, Qc, List.flatten_nil, List.append_nil] at ht
  refine lx_step ?_
  simp only [evAll, Nat.reduceBEq, ↓reduceIte, Nat.reduceEqDiff, Nat.reduceAdd, Nat.reduceLeDiff, Nat.reduceSub, Nat.reduceLT, reduceCtorEq, Int.reduceEq, Int.reduceLT, Int.reduceLE, Int.reduceNeg, loopQ, Int.reduceToNat, Nat.reduceMul, List.range'_one, walLoop1, c442, byteRow_length, hn]
  exact hQ _ rfl (by rw [ht]; rfl)
 | succ m ih =>
  intro i t hi ht hl
  have hy : (i : Int) < (p.length : Nat) := by omega
  have la : i < p.length := by omega
  have h0 : (0 : Int) ≤ i := by omega
  have ga : (byteRow p)[i]? = some [.i .u8 p[i].toNat] := by rw [byteRow_get, Qd la]; rfl
  have wr : IntKind.i64.wrap ((i : Int) + 1) = ((i + 1 : Nat) : Int) := by rw [i64w (by omega) (by omega)]; omega
  rw [List.drop_eq_getElem_cons la] at ht
  have gp := pc_get p[i]
  have lp := pc_len p[i]
  generalize p[i] = c at *
  have hc : c.toNat < 256 := by have := c.toBitVec.isLt; exact this
  have wc : IntKind.i64.wrap (c.toNat : Int) = (c.toNat : Int) := i64w (by omega) (by omega)
  have hm : (c.toNat : Int).tmod 18 = ((c.toNat % 18 : Nat) : Int) := rfl
  have hm0 : (0 : Int) ≤ ((c.toNat % 18 : Nat) : Int) := by omega
  have hpl : ((pcs.map fun x => [D.s x]).length : Int) = 18 := rfl
  have hsl : t.length + (pc c).length ≤ 4611686018427387904 := by omega
  have ih' := ih (i + 1) (t ++ pc c) (by omega) (by rw [← ht]; simp [textF]) (by rw [Qg]; omega)
  refine lx_step ?_
  generalize hr : (pcs.map fun x => [D.s x]) = rows at *
  simp only [evAll, Nat.reduceBEq, ↓reduceIte, Nat.reduceEqDiff, Nat.reduceAdd, Nat.reduceLeDiff, Nat.reduceSub, Nat.reduceLT, reduceCtorEq, Int.reduceEq, Int.reduceLT, Int.reduceLE, Int.reduceNeg, loopQ, Int.reduceToNat, Nat.reduceMul, List.range'_one, walLoop1, c442, byteRow_length, eq_true hy, h0, ga, wr, wc, hpl, hm, hm0, gp, Qk, eq_true hsl]
  exact ⟨_, rfl, ih'⟩
theorem wal_loop2 (w : WE E) (s t : List UInt8) {Q : Ex → St → Prop} (hQ : ∀ tm, Q (.exit 2) ⟨tm, [tk1, tk1]⟩) : ∀ (m i : Nat), i + m = 2 →
  LX E walLoop2 ⟨[8, 9], [], [], [], [], true⟩ 2 ⟨[(8, .own 1 0 1 ([s, t].map fun x => [D.s x])), (9, .d (.i .i64 i))], [tk1, tk1]⟩ Q := by
 intro m
 induction m with
 | zero =>
  intro i hi
  have hn : ¬ ((i : Int) < 2) := by omega
  refine lx_step ?_
  simp only [evAll, Nat.reduceBEq, ↓reduceIte, Nat.reduceEqDiff, Nat.reduceAdd, Nat.reduceLeDiff, Nat.reduceSub, Nat.reduceLT, reduceCtorEq, Int.reduceEq, Int.reduceLT, Int.reduceLE, Int.reduceNeg, loopQ, Int.reduceToNat, Nat.reduceMul, List.range'_one, walLoop2, c442, hn]
  exact hQ _
 | succ m ih =>
  intro i hi
  have hy : ((i : Int) < 2) := by omega
  have h0 : (0 : Int) ≤ i := by omega
  have la : i < [s, t].length := by simp; omega
  have ga : ([s, t].map fun x => [D.s x])[i]? = some [.s [s, t][i]] := by rw [List.getElem?_map, Qd la]; rfl
  have wr : IntKind.i64.wrap ((i : Int) + 1) = ((i + 1 : Nat) : Int) := by rw [i64w (by omega) (by omega)]; omega
  have ih' := ih (i + 1) (by omega)
  generalize [s, t][i] = x at *
  generalize hr : ([s, t].map fun x => [D.s x]) = rows at *
  have cA := all_ok w x
  have cR := rwords_ok w x
  have hl := allF_len x
  obtain ⟨⟨l, e⟩, he⟩ : ∃ y, allF x = y := ⟨_, rfl⟩
  rw [he] at cA cR hl
  refine lx_step ?_
  cases e with
  | none =>
   have cS := same_refl w (l := l) (by simp at hl; omega)
   simp only [ansW] at cA cR
   simp only [evAll, Nat.reduceBEq, ↓reduceIte, Nat.reduceEqDiff, Nat.reduceAdd, Nat.reduceLeDiff, Nat.reduceSub, Nat.reduceLT, reduceCtorEq, Int.reduceEq, Int.reduceLT, Int.reduceLE, Int.reduceNeg, loopQ, Int.reduceToNat, Nat.reduceMul, List.range'_one, walLoop2, c442, eq_true hy, h0, ga, cA, cR, cS, wr, bne_self_eq_false, not_true_eq_false, decide_false]
   exact ⟨_, rfl, ih'⟩
  | some p =>
   have cS := same_refl w (l := []) (by simp)
   simp only [ansW] at cA cR
   rw [Qc] at cS
   simp only [evAll, Nat.reduceBEq, ↓reduceIte, Nat.reduceEqDiff, Nat.reduceAdd, Nat.reduceLeDiff, Nat.reduceSub, Nat.reduceLT, reduceCtorEq, Int.reduceEq, Int.reduceLT, Int.reduceLE, Int.reduceNeg, loopQ, Int.reduceToNat, Nat.reduceMul, List.range'_one, walLoop2, c442, eq_true hy, h0, ga, cA, cR, cS, wr, bne_self_eq_false, not_true_eq_false, decide_false]
   exact ⟨_, rfl, ih'⟩
theorem wordAll_ok (w : WE E) (e442 : E 442 = some (.code c442)) (hb : lcall E 446 [] [] = some (.d (.b true), [])) (s p : List UInt8) : lcall E 442 [.d (.s s), .d (.l 1 (byteRow p))] [] = some (.d (.b true), []) := by
 refine call_q e442 ?_
 by_cases h1 : (s.length : Int) > 100
 ·simp only [evAll, Nat.reduceBEq, ↓reduceIte, Nat.reduceEqDiff, Nat.reduceAdd, Nat.reduceLeDiff, Nat.reduceSub, Nat.reduceLT, reduceCtorEq, Int.reduceEq, Int.reduceLT, Int.reduceLE, Int.reduceNeg, loopQ, Int.reduceToNat, Nat.reduceMul, List.range'_one, c442, hb, eq_true h1]
 by_cases h2 : (p.length : Int) > 60
 ·simp only [evAll, Nat.reduceBEq, ↓reduceIte, Nat.reduceEqDiff, Nat.reduceAdd, Nat.reduceLeDiff, Nat.reduceSub, Nat.reduceLT, reduceCtorEq, Int.reduceEq, Int.reduceLT, Int.reduceLE, Int.reduceNeg, loopQ, Int.reduceToNat, Nat.reduceMul, List.range'_one, c442, hb, h1, byteRow_length, eq_true h2]
 simp only [evAll, Nat.reduceBEq, ↓reduceIte, Nat.reduceEqDiff, Nat.reduceAdd, Nat.reduceLeDiff, Nat.reduceSub, Nat.reduceLT, reduceCtorEq, Int.reduceEq, Int.reduceLT, Int.reduceLE, Int.reduceNeg, loopQ, Int.reduceToNat, Nat.reduceMul, List.range'_one, c442, hb, h1, byteRow_length, h2]
 refine wal_loop1 (s := s) (p := p) (by omega) (fun tm t0 t6 => ?_) p.length 0 [] (by omega) (by rw [List.drop_zero]; rfl) (by simp)
 simp only [evAll, Nat.reduceBEq, ↓reduceIte, Nat.reduceEqDiff, Nat.reduceAdd, Nat.reduceLeDiff, Nat.reduceSub, Nat.reduceLT, reduceCtorEq, Int.reduceEq, Int.reduceLT, Int.reduceLE, Int.reduceNeg, loopQ, Int.reduceToNat, Nat.reduceMul, List.range'_one, t0, t6]
 refine wal_loop2 w s (textF p) (fun tm => ?_) 2 0 rfl
 simp only [evAll, Nat.reduceBEq, ↓reduceIte, Nat.reduceEqDiff, Nat.reduceAdd, Nat.reduceLeDiff, Nat.reduceSub, Nat.reduceLT, reduceCtorEq, Int.reduceEq, Int.reduceLT, Int.reduceLE, Int.reduceNeg, loopQ, Int.reduceToNat, Nat.reduceMul, List.range'_one, c442]
end Ab.Wd
namespace Ab
def tT : FTree := (.node 453 (.node 447 (.node 334 (.node 296 (.leaf 296 (.prim (parseImpl))) (.leaf 334 (.prim (idxbImpl)))) (.node 442 (.leaf 442 (.code c442)) (.node 446 (.leaf 446 (.code c446)) (.leaf 447 (.code c447))))) (.node 450 (.node 448 (.leaf 448 (.code c448)) (.node 449 (.leaf 449 (.code c449)) (.leaf 450 (.code c450)))) (.node 451 (.leaf 451 (.code c451)) (.node 452 (.leaf 452 (.code c452)) (.leaf 453 (.code c453)))))) (.node 458 (.node 455 (.node 454 (.leaf 454 (.code c454)) (.leaf 455 (.code c455))) (.node 456 (.leaf 456 (.code c456)) (.node 457 (.leaf 457 (.code c457)) (.leaf 458 (.code c458))))) (.node 461 (.node 459 (.leaf 459 (.code c459)) (.node 460 (.leaf 460 (.code c460)) (.leaf 461 (.code c461)))) (.node 462 (.leaf 462 (.code c462)) (.node 463 (.leaf 463 (.prim (quoteImpl))) (.leaf 10447 (.round [12, 13] [2, 3, 4] a10447 b10447)))))))
noncomputable def tF : Nat → Option Fn := FTree.get tT
end Ab
