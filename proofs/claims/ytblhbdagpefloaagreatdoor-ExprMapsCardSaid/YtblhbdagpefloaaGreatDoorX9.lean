/-
 What an expression comes to: all of it.
-/
import Derived.Test.YtblhbdagpefloaaGreatDoorX8
namespace Ab.Vx
open Go
set_option linter.unusedVariables false
set_option linter.unusedSimpArgs false
set_option maxRecDepth 100000
variable {E : Nat → Option Fn}
theorem takes_range {op : Int} (h : takesF op ≠ -2) : 0 ≤ op ∧ op ≤ 22 ∧ (takesF op < 0 → op = 14) ∧ -1 ≤ takesF op := by
 unfold takesF at *
 by_cases h0 : op = 0
 ·subst h0; decide
 by_cases h1 : op = 1
 ·subst h1; decide
 by_cases h2 : op = 2
 ·subst h2; decide
 by_cases h3 : op = 3
 ·subst h3; decide
 by_cases h21 : op = 21
 ·subst h21; decide
 by_cases h22 : op = 22
 ·subst h22; decide
 by_cases h11 : op = 11
 ·subst h11; decide
 by_cases h15 : op = 15
 ·subst h15; decide
 by_cases h12 : op = 12
 ·subst h12; decide
 by_cases h16 : op = 16
 ·subst h16; decide
 by_cases h14 : op = 14
 ·subst h14; decide
 rw [if_neg h0, if_neg h1, if_neg h2, if_neg h3, if_neg h21, if_neg h22, if_neg h11, if_neg h15, if_neg h12, if_neg h16, if_neg h14] at *
 split at h
 ·rename_i hh
  rw [if_pos hh]
  exact ⟨by omega, by omega, fun h => by omega, by omega⟩
 ·exact absurd rfl h
theorem cut_map {α β : Type} (f : α → β) (n : Int) (l : List α) : cutG n (l.map f) = (cutG n l).map f := by
 unfold cutG
 split
 ·rw [List.map_take]
 ·rfl
theorem cut_len {α : Type} {n : Int} {l : List α} (h : ¬ (l.length : Int) < n) : (0 ≤ n → ((cutG n l).length : Int) = n) ∧ (cutG n l).length ≤ l.length := by
 unfold cutG
 split
 ·refine ⟨fun _ => ?_, ?_⟩ <;> rw [List.length_take] <;> omega
 ·exact ⟨fun h => by omega, Nat.le_refl _⟩
theorem arity_cut {op : Int} {l : List GVal} (h : takesF op ≠ -2) (hl : ¬ (l.length : Int) < takesF op) (h0 : op ≠ 0) (h1 : op ≠ 1) (h2 : op ≠ 2) (h3 : op ≠ 3) (h12 : op ≠ 12) (hn : l.length ≤ 15) : Arity op (cutG (takesF op) l) := by
 obtain ⟨r1, r2, r3, r4⟩ := takes_range h
 obtain ⟨c1, c2⟩ := cut_len hl
 refine ⟨?_, by omega, h12, r2, by omega⟩
 by_cases hp : 0 ≤ takesF op
 ·exact .inl (c1 hp).symm
 ·exact .inr (r3 (by omega))
theorem szL_sum {l : List GVal} (h : ∀ x ∈ l, szN x ≤ 60) : szL l ≤ 60 * l.length := by
 induction l with
 | nil => simp [szL]
 | cons x r ih =>
  have h1 := h x (by simp)
  have h2 := ih fun y hy => h y (by simp [hy])
  simp only [szL, List.length_cons]; omega
theorem szL_app (a b : List GVal) : szL (a ++ b) = szL a + szL b := by
 induction a with
 | nil => simp [szL]
 | cons x r ih => simp only [List.cons_append, szL, ih]; omega
theorem szL_take (l : List GVal) (n : Nat) : szL (l.take n) + szL (l.drop n) = szL l := by rw [← szL_app, List.take_append_drop]
theorem szL_drop (l : List GVal) (n : Nat) : szL (l.drop n) ≤ szL l := by have := szL_take l n; omega
theorem sz_ins (l : List GVal) (v : GVal) : szL (insV l v) ≤ szL l + szN v := by
 unfold insV
 have := szL_take l (posV v l)
 split
 ·split
  ·omega
  ·simp only [szL_app, szL]; omega
 ·simp only [szL_app, szL]; omega
theorem sz_put (l : List GVal) (k v : GVal) : szL (putL l k v) ≤ szL l + (1 + szN k + szN v) := by
 unfold putL pairG
 have h1 := szL_take l (posK k.s l)
 have h2 : szL (l.drop (posK k.s l + 1)) ≤ szL (l.drop (posK k.s l)) := by
  have := szL_drop (l.drop (posK k.s l)) 1
  rwa [List.drop_drop] at this
 simp only [szL_app, szL]
 rw [szN_eq (.mk 4 0 [] [k, v])]
 simp only [gF, szL, List.length_nil]
 split <;> omega
theorem sz_small {k i : Int} {s : List UInt8} {l : List GVal} (h : s.length / 16 + szL l ≤ 998) : szN (.mk k i s l) ≤ 1000 := by rw [szN_eq]; simp only [gF]; omega
theorem sz_int (n : Int) : szN (intG n) ≤ 1000 := sz_small (by simp [szL])
theorem sz_bad (n : Int) : szN (badG n) ≤ 1000 := sz_small (by simp [szL])
theorem sz_bool (b : Bool) : szN (boolG b) ≤ 1000 := sz_small (by simp [szL])
theorem of_small {op : Int} {l : List GVal} (hl : ∀ x ∈ l, szN x ≤ 60) (hn : l.length ≤ 15) : szN (ofG op l) ≤ 1000 := by
 unfold ofG
 split
 ·exact sz_small (by simp [szL])
 split
 ·exact sz_small (by simp [szL])
 split
 ·exact sz_small (by have := szL_sum hl; simp; omega)
 split
 ·rename_i a
  split
  ·unfold logicG
   repeat' split
   all_goals first | exact sz_bad _ | exact sz_bool _
  ·unfold lengthG
   repeat' split
   all_goals first | exact sz_bad _ | exact sz_int _
 ·rename_i a b
  have ha := hl a (by simp)
  have hb := hl b (by simp)
  have za := szL_le a
  have zb := szL_le b
  have sa := s_le a
  have sb := s_le b
  unfold of2G
  split
  ·split
   ·unfold sumG
    repeat' split
    all_goals first | exact sz_bad _ | exact sz_int _
   ·exact sz_bad _
  split
  ·exact sz_bool _
  split
  ·exact sz_bool _
  split
  ·unfold logicG
   repeat' split
   all_goals first | exact sz_bad _ | exact sz_bool _
  split
  ·unfold catG
   split
   ·exact sz_bad _
   ·exact sz_small (by rw [szL_app, List.length_append]; omega)
  split
  ·split
   ·unfold getG
    split
    ·split
     ·rename_i k0 i0 s0 y x r hx
      have h1 := szL_mem (List.mem_of_getElem? hx)
      rw [szN_eq] at h1
      simp only [gF, szL] at h1
      omega
     ·exact sz_bad _
    ·exact sz_bad _
   ·exact sz_bad _
  split
  ·split
   ·exact sz_bool _
   ·exact sz_bad _
  ·unfold setG
   split
   ·split
    ·exact sz_bool _
    ·exact sz_small (by have := sz_ins a.l b; simp; omega)
   ·exact sz_bad _
 ·rename_i a b c
  have ha := hl a (by simp)
  have hb := hl b (by simp)
  have hc := hl c (by simp)
  have za := szL_le a
  split
  ·exact sz_small (by have := sz_put a.l b c; simp; omega)
  ·exact sz_bad _
 ·exact sz_bad _
set_option maxHeartbeats 1000000 in
theorem eval_ok' (C : EvC E) {vs : List (List GVal)} {ts : List (List UInt8)} (hr : GdR vs ts) : ∀ (n : Nat) (e : Exp), sizeOf e < n → GdE e → lcall E 277 [rdV vs ts, e.arg] [] = some ((evalF vs ts e).arg, []) := by
 intro n
 induction n with
 | zero => intro e h; omega
 | succ n ih =>
  intro e hs he
  have A := C.code
  have hc : ∀ x ∈ e.args, lcall E 277 [rdV vs ts, x.arg] [] = some ((evalF vs ts x).arg, []) := fun x hx => ih x (by have := arg_lt hx; omega) (he.args x hx)
  have hg : ∀ x ∈ e.args.map (evalF vs ts), Gd x := fun x hx => by
   obtain ⟨y, hy, rfl⟩ := List.mem_map.1 hx
   exact eval_gd hr (he.args y hy)
  have hlen := he.len
  have hle : (e.args.map (evalF vs ts)).length = e.args.length := List.length_map _
  have t1 := takes_ok A e.op
  have b1 := bad_ok A 1
  have b6 := bad_ok A 6
  have fin : ∀ v : GVal, Small v → szN v ≤ 1000000 → lcall E 112 [v.arg] [] = some (.d (.i .i64 (szN v)), []) := C.size
  rw [evalF_eq]
  unfold coreG
  rw [hle]
  by_cases h2 : takesF e.op = -2
  ·rw [if_pos (.inl h2), fit_of (gd_bad (by decide)).size]
   refine call_q A.e277 ?_
   simp only [evAll, ↓reduceIte, Nat.reduceEqDiff, Nat.reduceAdd, Nat.reduceLeDiff, reduceCtorEq, Int.reduceNeg, c277, t1, eq_true h2, b1]
  by_cases hl : (e.args.length : Int) < takesF e.op
  ·rw [if_pos (.inr hl), fit_of (gd_bad (by decide)).size]
   refine call_q A.e277 ?_
   simp only [evAll, ↓reduceIte, Nat.reduceEqDiff, Nat.reduceAdd, Nat.reduceLeDiff, reduceCtorEq, Int.reduceNeg, c277, t1, h2, List.length_map, eq_true hl, b1]
  rw [if_neg (by rintro (h | h); exact h2 h; exact hl h)]
  by_cases h0 : e.op = 0
  ·rw [if_pos h0]
   have gd := he.v h0
   have sz := fin e.v (small_sz _ (by have := gd.size; omega)) (by have := gd.size; omega)
   rw [fit_of gd.size]
   have hn : ¬ (szN e.v : Int) > 60 := by have := gd.size; omega
   refine call_q A.e277 ?_
   simp only [evAll, ↓reduceIte, Nat.reduceEqDiff, Nat.reduceAdd, Nat.reduceLeDiff, reduceCtorEq, Int.reduceNeg, c277, t1, h2, List.length_map, hl, eq_true h0, sz, hn]
  rw [if_neg h0]
  by_cases h1 : e.op = 1
  ·rw [if_pos h1]
   have rf := ref_ok A vs ts e
   have gd := refG_gd hr e.occ e.attr
   rw [fit_of gd.size]
   generalize refG vs e.occ e.attr = v at *
   have sz := fin v (small_sz _ (by have := gd.size; omega)) (by have := gd.size; omega)
   have hn : ¬ (szN v : Int) > 60 := by have := gd.size; omega
   refine call_q A.e277 ?_
   simp only [evAll, ↓reduceIte, Nat.reduceEqDiff, Nat.reduceAdd, Nat.reduceLeDiff, reduceCtorEq, Int.reduceNeg, c277, t1, h2, List.length_map, hl, h0, eq_true h1, rf, sz, hn]
  rw [if_neg h1]
  by_cases h23 : e.op = 2 ∨ e.op = 3
  ·rw [if_pos h23]
   have tx := text_ok A vs ts e hr.texts
   have hsz : szN (textG ts e.op e.occ) ≤ 1000000 ∧ (textG ts e.op e.occ).l = [] := by
    unfold textG
    split
    ·rename_i hh
     unfold inB at hh
     simp only [Bool.and_eq_true, decide_eq_true_eq] at hh
     have hsl := hr.texts _ (List.mem_of_getElem? (atD_in (z := []) hh.1 hh.2))
     split
     ·rw [szN_eq]; simp only [gF, szL]; exact ⟨by omega, trivial⟩
     ·split
      ·exact ⟨by have := sz_int (‹Nat› : Nat); omega, rfl⟩
      ·exact ⟨by have := sz_bad 2; omega, rfl⟩
    ·exact ⟨by have := sz_bad 7; omega, rfl⟩
   generalize textG ts e.op e.occ = v at *
   have sm : Small v := by
    have : Small (.mk v.kind v.i v.s v.l) := small_mk (by rw [hsz.2]; simp) (by rw [hsz.2]; simp)
    rwa [GVal.eta] at this
   have sz := fin v sm hsz.1
   unfold fitG
   by_cases h60 : 60 < szN v
   ·rw [if_pos h60]
    have hy : (szN v : Int) > 60 := by omega
    refine call_q A.e277 ?_
    by_cases e2 : e.op = 2
    ·simp only [evAll, ↓reduceIte, Nat.reduceEqDiff, Nat.reduceAdd, Nat.reduceLeDiff, reduceCtorEq, Int.reduceNeg, c277, t1, h2, List.length_map, hl, h0, h1, eq_true e2, tx, sz, eq_true hy, b6]
    ·have e3 : e.op = 3 := by omega
     simp only [evAll, ↓reduceIte, Nat.reduceEqDiff, Nat.reduceAdd, Nat.reduceLeDiff, reduceCtorEq, Int.reduceNeg, c277, t1, h2, List.length_map, hl, h0, h1, e2, eq_true e3, tx, sz, eq_true hy, b6]
   ·rw [if_neg h60]
    have hn : ¬ (szN v : Int) > 60 := by omega
    refine call_q A.e277 ?_
    by_cases e2 : e.op = 2
    ·simp only [evAll, ↓reduceIte, Nat.reduceEqDiff, Nat.reduceAdd, Nat.reduceLeDiff, reduceCtorEq, Int.reduceNeg, c277, t1, h2, List.length_map, hl, h0, h1, eq_true e2, tx, sz, hn]
    ·have e3 : e.op = 3 := by omega
     simp only [evAll, ↓reduceIte, Nat.reduceEqDiff, Nat.reduceAdd, Nat.reduceLeDiff, reduceCtorEq, Int.reduceNeg, c277, t1, h2, List.length_map, hl, h0, h1, e2, eq_true e3, tx, sz, hn]
  rw [if_neg h23]
  have e2 : ¬ e.op = 2 := fun h => h23 (.inl h)
  have e3 : ¬ e.op = 3 := fun h => h23 (.inr h)
  by_cases h12 : e.op = 12
  ·rw [if_pos h12]
   have ht : takesF e.op = 3 := by rw [h12]; rfl
   obtain ⟨c, a, b, r, ha⟩ : ∃ c a b r, e.args = c :: a :: b :: r := by
    match hx : e.args with
    | [] => rw [hx, ht] at hl; simp at hl
    | [_] => rw [hx, ht] at hl; simp at hl
    | [_, _] => rw [hx, ht] at hl; simp at hl
    | c :: a :: b :: r => exact ⟨c, a, b, r, rfl⟩
   have ch := choice_ok A ha hc
   have gd : szN (choiceG (e.args.map (evalF vs ts))) ≤ 60 := by
    rw [ha] at hg ⊢
    simp only [List.map_cons, choiceG] at hg ⊢
    repeat' split
    ·exact (hg _ (by simp)).size
    ·exact (hg _ (by simp)).size
    ·exact (hg _ (by simp)).size
    ·exact (gd_bad (by decide)).size
   rw [fit_of gd]
   generalize choiceG (e.args.map (evalF vs ts)) = v at *
   have sz := fin v (small_sz _ (by omega)) (by omega)
   have hn : ¬ (szN v : Int) > 60 := by omega
   refine call_q A.e277 ?_
   simp only [evAll, ↓reduceIte, Nat.reduceEqDiff, Nat.reduceAdd, Nat.reduceLeDiff, reduceCtorEq, Int.reduceNeg, c277, t1, h2, List.length_map, hl, h0, h1, e2, e3, eq_true h12, ch, sz, hn]
  rw [if_neg h12, cut_map]
  have har := arity_cut (l := e.args.map (evalF vs ts)) h2 (by rw [hle]; exact hl) h0 h1 e2 e3 h12 (by rw [hle]; exact hlen)
  rw [cut_map] at har
  have hcl := (cut_len hl).2
  have hgc : ∀ x ∈ (cutG (takesF e.op) e.args).map (evalF vs ts), Gd x := fun x hx => by
   rw [← cut_map] at hx
   exact hg x (cut_sub x hx)
  have hcc : ∀ x ∈ cutG (takesF e.op) e.args, lcall E 277 [rdV vs ts, x.arg] [] = some ((evalF vs ts x).arg, []) := fun x hx => hc x (cut_sub x hx)
  have ofk := of_ok A C.ins C.find C.cmp (op := e.op) (l := (cutG (takesF e.op) e.args).map (evalF vs ts)) (fun x hx => ⟨(hgc x hx).size, may_ord (hgc x hx).may⟩) har
  have ofs := of_small (op := e.op) (l := (cutG (takesF e.op) e.args).map (evalF vs ts)) (fun x hx => (hgc x hx).size) (by rw [List.length_map]; omega)
  have sz := fin _ (small_sz _ ofs) (by omega)
  have done : ∀ (tm : List (Nat × V)), True := fun _ => trivial
  unfold restG
  by_cases hp : 0 ≤ takesF e.op
  ·have hb : bounds none (some (.d (.i .i64 (takesF e.op)))) e.args.length = some (0, (takesF e.op).toNat) := by
    show (if 0 ≤ (0 : Int) ∧ (0 : Int) ≤ takesF e.op ∧ takesF e.op ≤ (e.args.length : Int) then some ((0 : Int).toNat, (takesF e.op).toNat) else none) = _
    rw [if_pos ⟨Int.le_refl _, hp, by omega⟩]; rfl
   have hcut : cutG (takesF e.op) e.args = e.args.take (takesF e.op).toNat := by unfold cutG; rw [if_pos hp]
   rw [hcut] at har hgc hcc ofk ofs sz hcl ⊢
   have hge : takesF e.op ≥ 0 := hp
   refine call_q A.e277 ?_
   simp only [evAll, ↓reduceIte, Nat.reduceEqDiff, Nat.reduceAdd, Nat.reduceLeDiff, reduceCtorEq, Int.reduceNeg, c277, t1, h2, List.length_map, hl, h0, h1, e2, e3, h12, eq_true hge, hb, ← List.map_take]
   refine ev_loop (by omega) hcc ((e.args.take (takesF e.op).toNat).length) 0 [] (by omega) rfl (fun y tm tl hf h4 => ?_) (fun tm hf h3 h4 h7 => ?_)
   ·rw [List.drop_zero] at hf
    rw [hf]
    rw [fit_of (hgc y (firstBad_mem hf)).size]
    simp only [evAll, ↓reduceIte, Nat.reduceAdd, h4]
   ·rw [List.drop_zero] at hf h7
    rw [List.nil_append] at h7
    rw [hf]
    simp only
    unfold fitG
    generalize ofG e.op ((e.args.take (takesF e.op).toNat).map (evalF vs ts)) = v at *
    by_cases h60 : 60 < szN v
    ·rw [if_pos h60]
     have hy : (szN v : Int) > 60 := by omega
     simp only [evAll, ↓reduceIte, Nat.reduceEqDiff, Nat.reduceAdd, Nat.reduceLeDiff, h3, h4, h7, ofk, sz, eq_true hy, b6]
    ·rw [if_neg h60]
     have hn : ¬ (szN v : Int) > 60 := by omega
     simp only [evAll, ↓reduceIte, Nat.reduceEqDiff, Nat.reduceAdd, Nat.reduceLeDiff, h3, h4, h7, ofk, sz, hn]
  ·have hcut : cutG (takesF e.op) e.args = e.args := by unfold cutG; rw [if_neg hp]
   rw [hcut] at har hgc hcc ofk ofs sz hcl ⊢
   have hge : ¬ takesF e.op ≥ 0 := hp
   refine call_q A.e277 ?_
   simp only [evAll, ↓reduceIte, Nat.reduceEqDiff, Nat.reduceAdd, Nat.reduceLeDiff, reduceCtorEq, Int.reduceNeg, c277, t1, h2, List.length_map, hl, h0, h1, e2, e3, h12, hge]
   refine ev_loop (by omega) hcc (e.args.length) 0 [] (by omega) rfl (fun y tm tl hf h4 => ?_) (fun tm hf h3 h4 h7 => ?_)
   ·rw [List.drop_zero] at hf
    rw [hf]
    rw [fit_of (hgc y (firstBad_mem hf)).size]
    simp only [evAll, ↓reduceIte, Nat.reduceAdd, h4]
   ·rw [List.drop_zero] at hf h7
    rw [List.nil_append] at h7
    rw [hf]
    simp only
    unfold fitG
    generalize ofG e.op (e.args.map (evalF vs ts)) = v at *
    by_cases h60 : 60 < szN v
    ·rw [if_pos h60]
     have hy : (szN v : Int) > 60 := by omega
     simp only [evAll, ↓reduceIte, Nat.reduceEqDiff, Nat.reduceAdd, Nat.reduceLeDiff, h3, h4, h7, ofk, sz, eq_true hy, b6]
    ·rw [if_neg h60]
     have hn : ¬ (szN v : Int) > 60 := by omega
     simp only [evAll, ↓reduceIte, Nat.reduceEqDiff, Nat.reduceAdd, Nat.reduceLeDiff, h3, h4, h7, ofk, sz, hn]
end Ab.Vx
