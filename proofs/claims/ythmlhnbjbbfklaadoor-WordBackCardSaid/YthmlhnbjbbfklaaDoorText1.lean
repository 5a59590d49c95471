/-
 WordBack: quotes, and the whole.
-/
import Derived.Test.YthmlhnbjbbfklaaDoorText0
import Derived.Test.YthmlhnbjbbfklaaDoorPack3
import Derived.Test.YthmlhnbjbbfklaaDoorPack5
set_option linter.unusedSimpArgs false
set_option linter.unusedVariables false
set_option linter.unusedSectionVars false
set_option linter.unnecessarySimpa false
set_option maxRecDepth 100000
set_option maxHeartbeats 4000000
namespace Ab.Wd
open Go
variable {E : Nat → Option Fn}
theorem bk_loop3 {qs : List (List UInt8)} {q : List UInt8} {i : Nat} (gq : (strRows qs)[i]? = some [.s q]) (hi : i ≤ 100) {s : List UInt8} {rows : List (List D)} {Q : Ex → St → Prop}
  (hr : ∀ tm, look tm 4 = .d (.b true) → Q .ret ⟨tm, [tk4]⟩)
  (hx : (∀ c ∈ q, Fine c) → q.length ≤ 20 → ∀ tm, look tm 1 = .d (.l 1 (strRows qs)) → look tm 5 = .d (.s s) → look tm 6 = .own 0 0 4 rows → look tm 10 = .d (.i .i64 i) → look tm 11 = .d (.s (escF q)) → Q (.exit 5) ⟨tm, [tk4]⟩) :
  ∀ (m k : Nat), k + m = q.length → (∀ c ∈ q.take k, Fine c) → (k = 0 ∨ q.length ≤ 20) →
  LX E bkLoop3 ⟨[1, 5, 6, 10, 11, 12], [], [], [], [], true⟩ 1 ⟨[(1, .d (.l 1 (strRows qs))), (5, .d (.s s)), (6, .own 0 0 4 rows), (10, .d (.i .i64 i)), (11, .d (.s (escF (q.take k)))), (12, .d (.i .i64 k))], [tk4]⟩ Q := by
 have hi0 : (0 : Int) ≤ (i : Nat) := by omega
 intro m
 induction m with
 | zero =>
  intro k hk hf hl
  have hn : ¬ ((k : Int) < (q.length : Nat)) := by omega
  rw [List.take_of_length_le (by omega)] at hf ⊢
  refine lx_step ?_
  simp only [evAll, Nat.reduceBEq, ↓reduceIte, Nat.reduceEqDiff, Nat.reduceAdd, Nat.reduceLeDiff, Nat.reduceSub, Nat.reduceLT, reduceCtorEq, Int.reduceEq, Int.reduceLT, Int.reduceLE, Int.reduceNeg, loopQ, Int.reduceToNat, Nat.reduceMul, List.range'_one, bkLoop3, bkLoop2, c444, hi0, gq, Qk, hn]
  refine hx hf ?_ _ rfl rfl rfl rfl rfl
  rcases hl with rfl | h
  ·omega
  ·exact h
 | succ m ih =>
  intro k hk hf hl
  have hy : ((k : Int) < (q.length : Nat)) := by omega
  have la : k < q.length := by omega
  have h0 : (0 : Int) ≤ (k : Nat) := by omega
  have ga : q[k]? = some q[k] := Qd la
  have htk : q.take (k + 1) = q.take k ++ [q[k]] := by rw [List.take_add_one, ga]; rfl
  generalize q[k] = c at *
  have hc : c.toNat < 256 := by have := c.toBitVec.isLt; exact this
  refine lx_step ?_
  by_cases b1 : (c.toNat : Int) < 32
  ·simp only [evAll, Nat.reduceBEq, ↓reduceIte, Nat.reduceEqDiff, Nat.reduceAdd, Nat.reduceLeDiff, Nat.reduceSub, Nat.reduceLT, reduceCtorEq, Int.reduceEq, Int.reduceLT, Int.reduceLE, Int.reduceNeg, loopQ, Int.reduceToNat, Nat.reduceMul, List.range'_one, bkLoop3, bkLoop2, c444, hi0, gq, Qk, eq_true hy, h0, ga, eq_true b1]
   exact hr _ rfl
  by_cases b2 : (126 : Int) < c.toNat
  ·simp only [evAll, Nat.reduceBEq, ↓reduceIte, Nat.reduceEqDiff, Nat.reduceAdd, Nat.reduceLeDiff, Nat.reduceSub, Nat.reduceLT, reduceCtorEq, Int.reduceEq, Int.reduceLT, Int.reduceLE, Int.reduceNeg, loopQ, Int.reduceToNat, Nat.reduceMul, List.range'_one, bkLoop3, bkLoop2, c444, hi0, gq, Qk, eq_true hy, h0, ga, b1, gt_iff_lt, eq_true b2]
   exact hr _ rfl
  by_cases b3 : (20 : Int) < (q.length : Nat)
  ·simp only [evAll, Nat.reduceBEq, ↓reduceIte, Nat.reduceEqDiff, Nat.reduceAdd, Nat.reduceLeDiff, Nat.reduceSub, Nat.reduceLT, reduceCtorEq, Int.reduceEq, Int.reduceLT, Int.reduceLE, Int.reduceNeg, loopQ, Int.reduceToNat, Nat.reduceMul, List.range'_one, bkLoop3, bkLoop2, c444, hi0, gq, Qk, eq_true hy, h0, ga, b1, gt_iff_lt, b2, eq_true b3]
   exact hr _ rfl
  have wr : IntKind.i64.wrap ((k : Int) + 1) = ((k + 1 : Nat) : Int) := by rw [i64w (by omega) (by omega)]; omega
  have ih' := ih (k + 1) (by omega) (by
   rw [htk]
   intro d hd
   rcases List.mem_append.1 hd with hd | hd
   ·exact hf d hd
   ·rw [List.mem_singleton.1 hd]; exact ⟨by omega, by omega⟩) (.inr (by omega))
  rw [htk, escF_snoc] at ih'
  have hel : (escF (q.take k)).length ≤ 40 := by
   have := escF_len (q.take k)
   rw [List.length_take] at this
   omega
  generalize escF (q.take k) = t at *
  have l1 : t.length + 1 ≤ 4611686018427387904 := by omega
  have l2 : t.length ≤ 4611686018427387902 := by omega
  have l3 : t.length ≤ 4611686018427387903 := by omega
  by_cases c1 : (c.toNat : Int) = 34
  ·have ee : escC c = [92, c] := by unfold escC; rw [if_pos (.inl (by omega))]
   rw [ee] at ih'
   have es : t ++ [92, c] = t ++ [92] ++ [c] := by simp
   rw [es] at ih'
   simp only [evAll, Nat.reduceBEq, ↓reduceIte, Nat.reduceEqDiff, Nat.reduceAdd, Nat.reduceLeDiff, Nat.reduceSub, Nat.reduceLT, reduceCtorEq, Int.reduceEq, Int.reduceLT, Int.reduceLE, Int.reduceNeg, loopQ, Int.reduceToNat, Nat.reduceMul, List.range'_one, bkLoop3, bkLoop2, c444, hi0, gq, Qk, eq_true hy, h0, ga, b1, gt_iff_lt, b2, b3, eq_true c1, List.length_cons, List.length_nil, Qg, l1, l2, l3, UInt8.ofNat_toNat, wr]
   exact ⟨_, rfl, ih'⟩
  by_cases c2 : (c.toNat : Int) = 92
  ·have ee : escC c = [92, c] := by unfold escC; rw [if_pos (.inr (by omega))]
   rw [ee] at ih'
   have es : t ++ [92, c] = t ++ [92] ++ [c] := by simp
   rw [es] at ih'
   simp only [evAll, Nat.reduceBEq, ↓reduceIte, Nat.reduceEqDiff, Nat.reduceAdd, Nat.reduceLeDiff, Nat.reduceSub, Nat.reduceLT, reduceCtorEq, Int.reduceEq, Int.reduceLT, Int.reduceLE, Int.reduceNeg, loopQ, Int.reduceToNat, Nat.reduceMul, List.range'_one, bkLoop3, bkLoop2, c444, hi0, gq, Qk, eq_true hy, h0, ga, b1, gt_iff_lt, b2, b3, c1, eq_true c2, List.length_cons, List.length_nil, Qg, l1, l2, l3, UInt8.ofNat_toNat, wr]
   exact ⟨_, rfl, ih'⟩
  ·have ee : escC c = [c] := by unfold escC; rw [if_neg (by omega)]
   rw [ee] at ih'
   simp only [evAll, Nat.reduceBEq, ↓reduceIte, Nat.reduceEqDiff, Nat.reduceAdd, Nat.reduceLeDiff, Nat.reduceSub, Nat.reduceLT, reduceCtorEq, Int.reduceEq, Int.reduceLT, Int.reduceLE, Int.reduceNeg, loopQ, Int.reduceToNat, Nat.reduceMul, List.range'_one, bkLoop3, bkLoop2, c444, hi0, gq, Qk, eq_true hy, h0, ga, b1, gt_iff_lt, b2, b3, c1, c2, List.length_cons, List.length_nil, Qg, l1, l2, l3, UInt8.ofNat_toNat, wr]
   exact ⟨_, rfl, ih'⟩
theorem bk_loop2 {qs : List (List UInt8)} (hq : qs.length ≤ 5) {L : Nat} (hL : L ≤ 40) {Q : Ex → St → Prop}
  (hr : ∀ tm, look tm 4 = .d (.b true) → Q .ret ⟨tm, [tk4]⟩)
  (hx : ∀ tm s want, Reads s want → s.length ≤ 500 → want.length ≤ 45 → look tm 5 = .d (.s s) → look tm 6 = .own 0 0 4 (want.map rowW) → Q (.exit 3) ⟨tm, [tk4]⟩) :
  ∀ (m i : Nat) (s : List UInt8) (want : List AW), i + m = qs.length → Reads s want → s.length ≤ 200 + 43 * i → want.length = L + i →
  LX E bkLoop2 ⟨[1, 5, 6, 10], [6], [], [], [], true⟩ 1 ⟨[(1, .d (.l 1 (strRows qs))), (5, .d (.s s)), (6, .own 0 0 4 (want.map rowW)), (10, .d (.i .i64 i))], [tk4]⟩ Q := by
 have hlr : (strRows qs).length = qs.length := by simp [strRows]
 intro m
 induction m with
 | zero =>
  intro i s want hi hR hs hw
  have hn : ¬ ((i : Int) < (qs.length : Nat)) := by omega
  refine lx_step ?_
  simp only [evAll, Nat.reduceBEq, ↓reduceIte, Nat.reduceEqDiff, Nat.reduceAdd, Nat.reduceLeDiff, Nat.reduceSub, Nat.reduceLT, reduceCtorEq, Int.reduceEq, Int.reduceLT, Int.reduceLE, Int.reduceNeg, loopQ, Int.reduceToNat, Nat.reduceMul, List.range'_one, bkLoop2, c444, hlr, hn]
  exact hx _ s want hR (by omega) (by omega) rfl rfl
 | succ m ih =>
  intro i s want hi hR hs hw
  have hy : ((i : Int) < (qs.length : Nat)) := by omega
  have la : i < qs.length := by omega
  have h0 : (0 : Int) ≤ (i : Nat) := by omega
  have ga : (strRows qs)[i]? = some [.s qs[i]] := by rw [strRows, List.getElem?_map, Qd la]; rfl
  have wr : IntKind.i64.wrap ((i : Int) + 1) = ((i + 1 : Nat) : Int) := by rw [i64w (by omega) (by omega)]; omega
  generalize qs[i] = q at *
  refine lx_step ?_
  simp only [evAll, Nat.reduceBEq, ↓reduceIte, Nat.reduceEqDiff, Nat.reduceAdd, Nat.reduceLeDiff, Nat.reduceSub, Nat.reduceLT, reduceCtorEq, Int.reduceEq, Int.reduceLT, Int.reduceLE, Int.reduceNeg, loopQ, Int.reduceToNat, Nat.reduceMul, List.range'_one, bkLoop2, c444, hlr, eq_true hy]
  refine bk_loop3 (q := q) ga (by omega) (fun tm t4 => ?_) (fun hf hl tm t1 t5 t6 t10 t11 => ?_) q.length 0 (by omega) (by simp) (.inl rfl)
  ·simp only [evAll, Nat.reduceBEq, ↓reduceIte, Nat.reduceEqDiff, Nat.reduceAdd, Nat.reduceLeDiff, Nat.reduceSub, Nat.reduceLT, reduceCtorEq, Int.reduceEq, Int.reduceLT, Int.reduceLE, Int.reduceNeg, loopQ, Int.reduceToNat, Nat.reduceMul, List.range'_one, t4]
   exact hr _ t4
  ·have hel := escF_len q
   have hR' : Reads (s ++ quoteT q ++ [10]) (want ++ [((3, q, 0), s.length)]) := hR.word (by omega) (by simp [quoteT]) (by decide) (fun r => (quote_read hf r).1) (fun r => (quote_read hf r).2)
   have hql : (quoteT q).length = (escF q).length + 2 := by simp [quoteT]
   have ih' := ih (i + 1) _ _ (by omega) hR' (by simp only [Qg, List.length_singleton]; omega) (by simp; omega)
   have es : s ++ quoteT q ++ [10] = s ++ [34] ++ escF q ++ [34, 10] := by simp [quoteT]
   rw [es] at ih'
   have rm : roomy (want.length + 1) 40 = true := by unfold roomy; exact Ql (by omega)
   have ap := app_word want (3, q, 0) s.length
   simp only at ap
   generalize escF q = t at *
   have l1 : s.length + 1 ≤ 4611686018427387904 := by omega
   have l2 : s.length ≤ 4611686018427387903 := by omega
   have l3 : s.length + 1 + t.length ≤ 4611686018427387904 := by omega
   have l4 : s.length + 1 + t.length + 2 ≤ 4611686018427387904 := by omega
   have l5 : s.length + 1 + t.length ≤ 4611686018427387902 := by omega
   simp only [evAll, Nat.reduceBEq, ↓reduceIte, Nat.reduceEqDiff, Nat.reduceAdd, Nat.reduceLeDiff, Nat.reduceSub, Nat.reduceLT, reduceCtorEq, Int.reduceEq, Int.reduceLT, Int.reduceLE, Int.reduceNeg, loopQ, Int.reduceToNat, Nat.reduceMul, List.range'_one, t1, t5, t6, t10, t11, h0, ga, Qk, List.length_cons, List.length_nil, Qg, Qf, rm, ap, l1, l2, l3, l4, l5, wr]
   exact ⟨_, rfl, ih'⟩
theorem wordBack_ok (w : WE E) (e444 : E 444 = some (.code c444)) (hb : lcall E 446 [] [] = some (.d (.b true), [])) (l : List Nat) (hu : ∀ x ∈ l, x ≤ 65535) (qs : List (List UInt8)) :
  lcall E 444 [.d (.l 1 (u16Rows l)), .d (.l 1 (strRows qs))] [] = some (.d (.b true), []) := by
 have hl1 : (u16Rows l).length = l.length := by simp [u16Rows]
 have hl2 : (strRows qs).length = qs.length := by simp [strRows]
 refine call_q e444 ?_
 by_cases h1 : (l.length : Int) > 40
 ·simp only [evAll, Nat.reduceBEq, ↓reduceIte, Nat.reduceEqDiff, Nat.reduceAdd, Nat.reduceLeDiff, Nat.reduceSub, Nat.reduceLT, reduceCtorEq, Int.reduceEq, Int.reduceLT, Int.reduceLE, Int.reduceNeg, loopQ, Int.reduceToNat, Nat.reduceMul, List.range'_one, c444, hb, hl1, eq_true h1]
 by_cases h2 : (qs.length : Int) > 5
 ·simp only [evAll, Nat.reduceBEq, ↓reduceIte, Nat.reduceEqDiff, Nat.reduceAdd, Nat.reduceLeDiff, Nat.reduceSub, Nat.reduceLT, reduceCtorEq, Int.reduceEq, Int.reduceLT, Int.reduceLE, Int.reduceNeg, loopQ, Int.reduceToNat, Nat.reduceMul, List.range'_one, c444, hb, hl1, h1, hl2, eq_true h2]
 simp only [evAll, Nat.reduceBEq, ↓reduceIte, Nat.reduceEqDiff, Nat.reduceAdd, Nat.reduceLeDiff, Nat.reduceSub, Nat.reduceLT, reduceCtorEq, Int.reduceEq, Int.reduceLT, Int.reduceLE, Int.reduceNeg, loopQ, Int.reduceToNat, Nat.reduceMul, List.range'_one, c444, hb, hl1, h1, hl2, h2]
 refine bk_loop1 (l := l) (q := qs) (by omega) hu (fun tm s want hR hs hw t1 t5 t6 => ?_) l.length 0 [] [] (by omega) Reads.nil (by simp) rfl
 simp only [evAll, Nat.reduceBEq, ↓reduceIte, Nat.reduceEqDiff, Nat.reduceAdd, Nat.reduceLeDiff, Nat.reduceSub, Nat.reduceLT, reduceCtorEq, Int.reduceEq, Int.reduceLT, Int.reduceLE, Int.reduceNeg, loopQ, Int.reduceToNat, Nat.reduceMul, List.range'_one, t1, t5, t6]
 refine bk_loop2 (qs := qs) (by omega) (L := l.length) (by omega) (fun tm t4 => ?_) (fun tm s want hR hs hw t5 t6 => ?_) qs.length 0 s want (by omega) hR (by omega) (by omega)
 ·simp only [evAll, Nat.reduceBEq, ↓reduceIte, Nat.reduceEqDiff, Nat.reduceAdd, Nat.reduceLeDiff, Nat.reduceSub, Nat.reduceLT, reduceCtorEq, Int.reduceEq, Int.reduceLT, Int.reduceLE, Int.reduceNeg, loopQ, Int.reduceToNat, Nat.reduceMul, List.range'_one, t4]
 ·have c1 := all_ok w s
  rw [hR.all (by omega)] at c1
  simp only [ansW] at c1
  have cS := same_refl w (l := want) (by omega)
  simp only [evAll, Nat.reduceBEq, ↓reduceIte, Nat.reduceEqDiff, Nat.reduceAdd, Nat.reduceLeDiff, Nat.reduceSub, Nat.reduceLT, reduceCtorEq, Int.reduceEq, Int.reduceLT, Int.reduceLE, Int.reduceNeg, loopQ, Int.reduceToNat, Nat.reduceMul, List.range'_one, t5, t6, c1, cS, bne_self_eq_false]
end Ab.Wd
namespace Ab.Wd
open Go
variable {P : Program}
theorem ty_u16s {t e : TypeId} (hu : P.underlying t = some (.slice e)) (he : P.underlying e = some (.int .u16)) (hc : P.cellsOf e = 1) {f : Nat} {ds : List D} (h : tyD P f t ds) : ∃ l : List Nat, ds = [.l 1 (u16Rows l)] ∧ ∀ x ∈ l, x ≤ 65535 := by
 cases f with
 | zero => exact h.elim
 | succ f =>
  simp only [tyD, hu, hc] at h
  obtain ⟨xs, rfl, _, h⟩ := h
  have : ∀ (xs : List (List D)), (∀ r ∈ xs, r.length = 1 ∧ tyD P f e r) → ∃ l : List Nat, xs = u16Rows l ∧ ∀ x ∈ l, x ≤ 65535 := by
   intro xs
   induction xs with
   | nil => intro _; exact ⟨[], rfl, fun x hx => by simp at hx⟩
   | cons r xs ih =>
    intro h
    obtain ⟨l, rfl, hl⟩ := ih (fun r hr => h r (List.mem_cons_of_mem _ hr))
    obtain ⟨h1, h2⟩ := h r List.mem_cons_self
    obtain ⟨n, rfl, hn1, hn2⟩ := ty_u16 he h2
    refine ⟨n.toNat :: l, ?_, ?_⟩
    ·simp only [u16Rows, Qb]
     rw [Int.toNat_of_nonneg hn1]
    ·intro x hx
     rcases List.mem_cons.1 hx with rfl | hx
     ·omega
     ·exact hl x hx
  obtain ⟨l, rfl, hl⟩ := this xs h
  exact ⟨l, rfl, hl⟩
theorem ty_strs {t e : TypeId} (hu : P.underlying t = some (.slice e)) (he : P.underlying e = some .string) (hc : P.cellsOf e = 1) {f : Nat} {ds : List D} (h : tyD P f t ds) : ∃ l : List (List UInt8), ds = [.l 1 (strRows l)] := by
 cases f with
 | zero => exact h.elim
 | succ f =>
  simp only [tyD, hu, hc] at h
  obtain ⟨xs, rfl, _, h⟩ := h
  have : ∀ (xs : List (List D)), (∀ r ∈ xs, r.length = 1 ∧ tyD P f e r) → ∃ l : List (List UInt8), xs = strRows l := by
   intro xs
   induction xs with
   | nil => intro _; exact ⟨[], rfl⟩
   | cons r xs ih =>
    intro h
    obtain ⟨l, rfl⟩ := ih (fun r hr => h r (List.mem_cons_of_mem _ hr))
    obtain ⟨h1, h2⟩ := h r List.mem_cons_self
    obtain ⟨x, rfl⟩ := ty_str he h2
    exact ⟨x :: l, rfl⟩
  obtain ⟨l, rfl⟩ := this xs h
  exact ⟨l, rfl⟩
end Ab.Wd
namespace Ab
def tT : FTree := (.node 453 (.node 447 (.node 334 (.node 296 (.leaf 296 (.prim (parseImpl))) (.leaf 334 (.prim (idxbImpl)))) (.node 444 (.leaf 444 (.code c444)) (.node 446 (.leaf 446 (.code c446)) (.leaf 447 (.code c447))))) (.node 450 (.node 448 (.leaf 448 (.code c448)) (.node 449 (.leaf 449 (.code c449)) (.leaf 450 (.code c450)))) (.node 451 (.leaf 451 (.code c451)) (.node 452 (.leaf 452 (.code c452)) (.leaf 453 (.code c453)))))) (.node 458 (.node 455 (.node 454 (.leaf 454 (.code c454)) (.leaf 455 (.code c455))) (.node 456 (.leaf 456 (.code c456)) (.node 457 (.leaf 457 (.code c457)) (.leaf 458 (.code c458))))) (.node 461 (.node 459 (.leaf 459 (.code c459)) (.node 460 (.leaf 460 (.code c460)) (.leaf 461 (.code c461)))) (.node 462 (.leaf 462 (.code c462)) (.node 463 (.leaf 463 (.prim (quoteImpl))) (.leaf 10447 (.round [12, 13] [2, 3, 4] a10447 b10447)))))))
noncomputable def tF : Nat → Option Fn := FTree.get tT
end Ab
