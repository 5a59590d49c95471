/-
 The generator's expressions.
-/
import Derived.Test.YtblhbdagpefloaaGreatDoorX11
namespace Ab.Vx
open Go
set_option linter.unusedVariables false
set_option linter.unusedSimpArgs false
set_option maxRecDepth 100000
set_option maxHeartbeats 1000000
variable {E : Nat → Option Fn}
def mvV (v : GVal) : Bool := decide (sizeV v ≤ 60) && mayV v
theorem mvV_gd {v : GVal} (h : Gd v) : mvV v = true := by
 unfold mvV
 have := h.size
 rw [sizeV_fit v (by omega), h.may, decide_eq_true (by omega)]; rfl
structure MkE (d : Int) (e : Exp) : Prop where
 gd : GdE e
 may : ∀ D : Int, d ≤ D → mayE mvV e D = true
theorem mk_op {op occ attr d : Int} {l : List Exp} (h0 : op ≠ 0) (ht : takesF op ≠ -2) (hn : takesF op < 0 ∨ (l.length : Int) = takesF op) (hl : l.length ≤ 4)
  (h1 : 0 ≤ occ) (h2 : occ ≤ if op = 1 then 5 else if op = 2 then 5 else if op = 3 then 5 else 0) (h3 : 0 ≤ attr) (h4 : attr ≤ if op = 1 then 7 else 0) (hd : 1 ≤ d) (hx : ∀ x ∈ l, MkE (d - 1) x) : MkE d (.mk op zeroV occ attr l) := by
 refine ⟨.mk (fun h => absurd h h0) (fun x hx' => (hx x hx').gd) (by omega), fun D hD => ?_⟩
 have ha : mayAll mvV l (D - 1) = true := by
  rw [← mayAll_any]
  simp only [Bool.not_eq_true', List.any_eq_false]
  intro x hx'
  rw [(hx x hx').may (D - 1) (by omega)]; simp
 have hf : fieldsF mvV op zeroV occ attr = true := by
  unfold fieldsF
  rw [if_neg h0, show zeroF zeroV = true from rfl, decide_eq_true h1, decide_eq_true h2, decide_eq_true h3, decide_eq_true h4]; rfl
 rw [mayE_eq]
 simp only [eF, ha, hf, decide_eq_true (show (1 : Int) ≤ D by omega), decide_eq_false ht, Bool.not_false, Bool.true_and, Bool.and_true]
 rw [decide_eq_true (show (l.length : Int) ≤ 4 by omega), Bool.and_true]
 rcases hn with h | h
 ·rw [decide_eq_true h]; rfl
 ·rw [decide_eq_true h, Bool.or_true]
theorem mk_con {v : GVal} {d : Int} (h : Gd v) (h7 : v.kind ≠ 7) (hd : 1 ≤ d) : MkE d (.mk 0 v 0 0 []) := by
 refine ⟨gdE_con' h, fun D hD => ?_⟩
 rw [mayE_eq]
 simp only [eF, mayAll, fieldsF, if_true, mvV_gd h, decide_eq_true h7, decide_eq_true (show (1 : Int) ≤ D by omega)]
 decide
where gdE_con' {v : GVal} (h : Gd v) : GdE (.mk 0 v 0 0 []) := .mk (fun _ => h) (fun _ h => (by cases h)) (by simp)
theorem gen_gd {v : GVal} (h : GenOk (bnd 2) v) : Gd v := ⟨h.may, by have := h.size; have : bnd 2 = 55 := rfl; omega⟩
def LeafC (E : Nat → Option Fn) (l : List UInt8) : Prop := ∀ (n : Nat), n ≤ l.length →
 ∃ (e : Exp) (n' : Nat), lcall E 274 [.ptr 0 0] [pbox l n] = some (e.arg, [pbox l n']) ∧ n' ≤ l.length ∧ ∀ d, 1 ≤ d → MkE d e
def MadeC (E : Nat → Option Fn) (l : List UInt8) (d : Nat) : Prop := ∀ (n : Nat), n ≤ l.length →
 ∃ (e : Exp) (n' : Nat), lcall E 267 [.ptr 0 0, .d (.i .i64 d)] [pbox l n] = some (e.arg, [pbox l n']) ∧ n' ≤ l.length ∧ MkE (if d ≤ 1 then 1 else d) e
theorem leaf_ok (e274 : E 274 = some (.code c274)) {l : List UInt8} (hnum : NumC E l) (hval : GenC E l 2) : LeafC E l := by
 intro n hn
 obtain ⟨r, n1, c1, r0, r6, hn1⟩ := hnum n hn 6 (by omega)
 by_cases h0 : r = 0
 ·obtain ⟨o, n2, c2, o0, o4, hn2⟩ := hnum n1 hn1 4 (by omega)
  obtain ⟨a, n3, c3, a0, a3, hn3⟩ := hnum n2 hn2 3 (by omega)
  refine ⟨.mk 1 zeroV o a [], n3, call_q e274 ?_, hn3, fun d hd => mk_op (by decide) (by decide) (.inr rfl) (by simp) o0 (by rw [if_pos rfl]; omega) a0 (by rw [if_pos rfl]; omega) hd (by simp)⟩
  simp only [evAll, ↓reduceIte, Nat.reduceEqDiff, Nat.reduceAdd, Nat.reduceLeDiff, Nat.reduceLT, reduceCtorEq, c274, c1, eq_true h0, c2, c3]
  rfl
 by_cases h1 : r = 1
 ·obtain ⟨o, n2, c2, o0, o4, hn2⟩ := hnum n1 hn1 2 (by omega)
  obtain ⟨a, n3, c3, a0, a3, hn3⟩ := hnum n2 hn2 3 (by omega)
  have w : IntKind.i64.wrap (2 + o) = 2 + o := i64_in (by omega) (by omega)
  have ho : 2 + o = 2 ∨ 2 + o = 3 := by omega
  refine ⟨.mk (2 + o) zeroV a 0 [], n3, call_q e274 ?_, hn3, fun d hd => ?_⟩
  ·simp only [evAll, ↓reduceIte, Nat.reduceEqDiff, Nat.reduceAdd, Nat.reduceLeDiff, Nat.reduceLT, reduceCtorEq, c274, c1, h0, eq_true h1, c2, c3, w]
   rfl
  ·rcases ho with h | h <;> rw [h]
   ·exact mk_op (by decide) (by decide) (.inr rfl) (by simp) a0 (by rw [if_neg (by decide), if_pos rfl]; omega) (by decide) (by decide) hd (by simp)
   ·exact mk_op (by decide) (by decide) (.inr rfl) (by simp) a0 (by rw [if_neg (by decide), if_neg (by decide), if_pos rfl]; omega) (by decide) (by decide) hd (by simp)
 by_cases h2 : r = 2
 ·obtain ⟨o, n2, c2, o0, o4, hn2⟩ := hnum n1 hn1 2 (by omega)
  have w : IntKind.i64.wrap (21 + o) = 21 + o := i64_in (by omega) (by omega)
  have ho : 21 + o = 21 ∨ 21 + o = 22 := by omega
  refine ⟨.mk (21 + o) zeroV 0 0 [], n2, call_q e274 ?_, hn2, fun d hd => ?_⟩
  ·simp only [evAll, ↓reduceIte, Nat.reduceEqDiff, Nat.reduceAdd, Nat.reduceLeDiff, Nat.reduceLT, reduceCtorEq, c274, c1, h0, h1, eq_true h2, c2, w]
   rfl
  ·rcases ho with h | h <;> rw [h]
   ·exact mk_op (by decide) (by decide) (.inr rfl) (by simp) (by decide) (by decide) (by decide) (by decide) hd (by simp)
   ·exact mk_op (by decide) (by decide) (.inr rfl) (by simp) (by decide) (by decide) (by decide) (by decide) hd (by simp)
 ·obtain ⟨v, n2, c2, hn2, gv⟩ := hval n1 hn1
  refine ⟨.mk 0 v 0 0 [], n2, call_q e274 ?_, hn2, fun d hd => mk_con (gen_gd gv) gv.good hd⟩
  have c2' : lcall E 109 [.ptr 0 0, .d (.i .i64 2)] [pbox l n1] = some (v.arg, [pbox l n2]) := c2
  simp only [evAll, ↓reduceIte, Nat.reduceEqDiff, Nat.reduceAdd, Nat.reduceLeDiff, Nat.reduceLT, reduceCtorEq, c274, c1, h0, h1, h2, c2']
  rfl
def mkLoop : CCode := match c267.body with
 | .seq _ (.seq _ (.seq _ (.seq _ (.seq _ (.seq _ (.seq (.seq _ (.block _ (.loop _ c))) _)))))) => c
 | _ => .skip
abbrev bz8 : Option Obj := some (.box [.d (.i .i64 0), .d (.i .i64 0), .d (.i .i64 0), .d (.s []), .nil 4, .d (.i .i64 0), .d (.i .i64 0), .nil 8])
abbrev bxM (op : Int) (T : Nat) (xs : List Exp) : Option Obj := some (.box [.d (.i .i64 op), .d (.i .i64 0), .d (.i .i64 0), .d (.s []), .nil 4, .d (.i .i64 0), .d (.i .i64 0), .own T 0 8 (xs.map Exp.row)])
theorem app_exp (xs : List Exp) (e : Exp) : xs.map Exp.row ++ [[.i .i64 e.op, .i .i64 e.v.kind, .i .i64 e.v.i, .s e.v.s, .l 4 (gvalRows e.v.l), .i .i64 e.occ, .i .i64 e.attr, .l 8 (e.args.map Exp.row)]] = (xs ++ [e]).map Exp.row := by
 rw [List.map_append, List.map_singleton, exp_row]
def pad (t : Bool) : List (Option Obj) := if t then [none, none, none, none] else []
set_option maxHeartbeats 4000000 in
theorem mk_loop {l : List UInt8} {d : Nat} (hd : d + 1 ≤ 100) (hm : MadeC E l d) (op : Int) (t : Bool) (N : Nat) (hN : N ≤ 10) {Q : Ex → St → Prop}
  (hq : ∀ tm n' xs, n' ≤ l.length → xs.length = N → (∀ x ∈ xs, MkE (if d ≤ 1 then 1 else d) x) → look tm 4 = .ptr 1 0 → look tm 6 = .ptr 10 0 → Q (.exit 2) ⟨tm, [pbox l n', bz8, none, none, none, none, none, none, none, none, bxM op (if t then 15 else 11) xs] ++ pad t ++ [some (.tok 0 8)]⟩) :
  ∀ (m i n : Nat) (xs : List Exp), i + m = N → n ≤ l.length → xs.length = i → (∀ x ∈ xs, MkE (if d ≤ 1 then 1 else d) x) →
  LX E mkLoop ⟨[0, 1, 4, 6, 7, 8], [], [(6, 7)], [], [], true⟩ (if t then 16 else 12) ⟨[(0, .ptr 0 0), (1, .d (.i .i64 ((d + 1 : Nat) : Int))), (4, .ptr 1 0), (6, .ptr 10 0), (7, .d (.i .i64 N)), (8, .d (.i .i64 i))],
   [pbox l n, bz8, none, none, none, none, none, none, none, none, bxM op (if t then 15 else 11) xs] ++ pad t ++ [some (.tok 0 8)]⟩ Q := by
 intro m
 induction m with
 | zero =>
  intro i n xs hi hn hx hg
  have hnn : ¬ ((i : Int) < (N : Int)) := by omega
  refine lx_step ?_
  cases t
  ·simp only [evAll, ↓reduceIte, Nat.reduceEqDiff, Nat.reduceAdd, reduceCtorEq, loopQ, mkLoop, c267, hnn, pad]
   exact hq _ _ _ hn (by omega) hg rfl rfl
  ·simp only [evAll, ↓reduceIte, Nat.reduceEqDiff, Nat.reduceAdd, reduceCtorEq, loopQ, mkLoop, c267, hnn, pad]
   exact hq _ _ _ hn (by omega) hg rfl rfl
 | succ m ih =>
  intro i n xs hi hn hx hg
  have hy : (i : Int) < (N : Int) := by omega
  have w : IntKind.i64.wrap ((i : Int) + 1) = ((i + 1 : Nat) : Int) := by rw [i64_in (by omega) (by omega)]; omega
  have wd : IntKind.i64.wrap (((d + 1 : Nat) : Int) - 1) = (d : Int) := by rw [i64_in (by omega) (by omega)]; omega
  obtain ⟨e, n', c1, hn', ge⟩ := hm n hn
  have r2 : roomy (xs.length + 1) 104 = true := by unfold roomy; exact decide_eq_true (by omega)
  have ih' := ih (i + 1) n' (xs ++ [e]) (by omega) hn' (by simp [hx]) (fun x h => by
   rcases List.mem_append.1 h with h | h
   ·exact hg x h
   ·rw [List.mem_singleton.1 h]; exact ge)
  refine lx_step ?_
  cases t
  ·simp only [evAll, ↓reduceIte, Nat.reduceEqDiff, Nat.reduceAdd, Nat.reduceLeDiff, Nat.reduceLT, reduceCtorEq, loopQ, mkLoop, c267, eq_true hy, w, wd, c1, r2, app_exp, pad, List.length_map]
   exact ⟨by rfl, _, rfl, ih'⟩
  ·simp only [evAll, ↓reduceIte, Nat.reduceEqDiff, Nat.reduceAdd, Nat.reduceLeDiff, Nat.reduceLT, reduceCtorEq, loopQ, mkLoop, c267, eq_true hy, w, wd, c1, r2, app_exp, pad, List.length_map]
   exact ⟨by rfl, _, rfl, ih'⟩
def argN (op : Int) : Nat := if op = 21 ∨ op = 22 then 0 else if op = 11 ∨ op = 15 then 1 else if op = 12 ∨ op = 16 then 3 else 2
theorem takes_argN {op : Int} (h1 : 7 ≤ op) (h2 : op ≤ 22) (h14 : op ≠ 14) : takesF op = (argN op : Int) := by
 have : op = 7 ∨ op = 8 ∨ op = 9 ∨ op = 10 ∨ op = 11 ∨ op = 12 ∨ op = 13 ∨ op = 15 ∨ op = 16 ∨ op = 17 ∨ op = 18 ∨ op = 19 ∨ op = 20 ∨ op = 21 ∨ op = 22 := by omega
 rcases this with h | h | h | h | h | h | h | h | h | h | h | h | h | h | h <;> subst h <;> rfl
theorem argN_or (op : Int) : ((op = 21 ∨ op = 22) ∧ argN op = 0) ∨ ((op = 11 ∨ op = 15) ∧ argN op = 1) ∨ ((op = 12 ∨ op = 16) ∧ argN op = 3) ∨ ((op ≠ 21 ∧ op ≠ 22 ∧ op ≠ 11 ∧ op ≠ 15 ∧ op ≠ 12 ∧ op ≠ 16) ∧ argN op = 2) := by
 unfold argN
 by_cases h1 : op = 21 ∨ op = 22
 ·exact .inl ⟨h1, if_pos h1⟩
 by_cases h2 : op = 11 ∨ op = 15
 ·exact .inr (.inl ⟨h2, by rw [if_neg h1, if_pos h2]⟩)
 by_cases h3 : op = 12 ∨ op = 16
 ·exact .inr (.inr (.inl ⟨h3, by rw [if_neg h1, if_neg h2, if_pos h3]⟩))
 ·exact .inr (.inr (.inr ⟨by omega, by rw [if_neg h1, if_neg h2, if_neg h3]⟩))
set_option maxHeartbeats 4000000 in
theorem made_expr (e267 : E 267 = some (.code c267)) {l : List UInt8} (hleaf : LeafC E l) (hnum : NumC E l) : ∀ (d : Nat), d ≤ 100 → MadeC E l d := by
 intro d
 induction d with
 | zero =>
  intro _ n hn
  obtain ⟨r, n1, c1, r0, r30, hn1⟩ := hnum n hn 30 (by omega)
  obtain ⟨e, n2, c2, hn2, ge⟩ := hleaf n1 hn1
  have h : ((0 : Nat) : Int) ≤ 1 := by omega
  refine ⟨e, n2, call_q e267 ?_, hn2, ge _ (by simp)⟩
  simp only [evAll, ↓reduceIte, Nat.reduceEqDiff, Nat.reduceAdd, Nat.reduceLeDiff, Nat.reduceLT, reduceCtorEq, Int.reduceLE, c267, c1, c2]
 | succ d ih =>
  intro hd n hn
  obtain ⟨r, n1, c1, r0, r30, hn1⟩ := hnum n hn 30 (by omega)
  by_cases d0 : d = 0
  ·subst d0
   obtain ⟨e, n2, c2, hn2, ge⟩ := hleaf n1 hn1
   have h : ((0 + 1 : Nat) : Int) ≤ 1 := by omega
   refine ⟨e, n2, call_q e267 ?_, hn2, ge _ (by simp)⟩
   simp only [evAll, ↓reduceIte, Nat.reduceEqDiff, Nat.reduceAdd, Nat.reduceLeDiff, Nat.reduceLT, reduceCtorEq, Int.reduceLE, c267, c1, c2]
  have hd1 : ¬ ((d + 1 : Nat) : Int) ≤ 1 := by omega
  have ih := ih (by omega)
  have hif : (if d + 1 ≤ 1 then (1 : Int) else ((d + 1 : Nat) : Int)) = ((d + 1 : Nat) : Int) := if_neg (by omega)
  have hsub : ∀ e, MkE (if d ≤ 1 then 1 else d) e → MkE (((d + 1 : Nat) : Int) - 1) e := fun e h => by
   have : (if d ≤ 1 then (1 : Int) else d) = ((d + 1 : Nat) : Int) - 1 := by split <;> omega
   rwa [this] at h
  by_cases h6 : r < 6
  ·obtain ⟨e, n2, c2, hn2, ge⟩ := hleaf n1 hn1
   refine ⟨e, n2, call_q e267 ?_, hn2, ge _ (by rw [hif]; omega)⟩
   simp only [evAll, ↓reduceIte, Nat.reduceEqDiff, Nat.reduceAdd, Nat.reduceLeDiff, Nat.reduceLT, reduceCtorEq, c267, c1, hd1, eq_true h6, c2]
  have wd : IntKind.i64.wrap (((d + 1 : Nat) : Int) - 1) = (d : Int) := by rw [i64_in (by omega) (by omega)]; omega
  by_cases h12 : r < 12
  ·obtain ⟨o, n2, c2, o0, o3, hn2⟩ := hnum n1 hn1 3 (by omega)
   obtain ⟨x, n3, c3, hn3, gx⟩ := ih n2 hn2
   obtain ⟨y, n4, c4, hn4, gy⟩ := ih n3 hn3
   have w : IntKind.i64.wrap (4 + o) = 4 + o := i64_in (by omega) (by omega)
   refine ⟨.mk (4 + o) zeroV 0 0 [x, y], n4, call_q e267 ?_, hn4, ?_⟩
   ·simp only [evAll, ↓reduceIte, Nat.reduceEqDiff, Nat.reduceAdd, Nat.reduceLeDiff, Nat.reduceLT, reduceCtorEq, c267, c1, hd1, h6, eq_true h12, c2, w, wd, c3, c4]
    show some (V.agg [V.d (D.i IntKind.i64 (4 + o)), V.d (D.i IntKind.i64 0), V.d (D.i IntKind.i64 0), V.d (D.s []), V.d (D.l 4 []), V.d (D.i IntKind.i64 0), V.d (D.i IntKind.i64 0), V.d (D.l 8 _)], _) = some (V.agg [V.d (D.i IntKind.i64 (4 + o)), V.d (D.i IntKind.i64 0), V.d (D.i IntKind.i64 0), V.d (D.s []), V.d (D.l 4 []), V.d (D.i IntKind.i64 0), V.d (D.i IntKind.i64 0), V.d (D.l 8 [x.row, y.row])], _)
    rw [exp_row, exp_row]
   ·rw [hif]
    have ho : 4 + o = 4 ∨ 4 + o = 5 ∨ 4 + o = 6 := by omega
    have hx : ∀ z ∈ [x, y], MkE (((d + 1 : Nat) : Int) - 1) z := fun z hz => by
     rcases List.mem_cons.1 hz with rfl | hz
     ·exact hsub _ gx
     ·rw [List.mem_singleton.1 hz]; exact hsub _ gy
    rcases ho with h | h | h <;> rw [h] <;> exact mk_op (by decide) (by decide) (.inr rfl) (by simp) (by decide) (by decide) (by decide) (by decide) (by omega) hx
  ·obtain ⟨o, n2, c2, o0, o16, hn2⟩ := hnum n1 hn1 16 (by omega)
   have w : IntKind.i64.wrap (7 + o) = 7 + o := i64_in (by omega) (by omega)
   obtain ⟨op, hop⟩ : ∃ op, op = 7 + o := ⟨_, rfl⟩
   rw [← hop] at w
   have b1 : 7 ≤ op := by omega
   have b2 : op ≤ 22 := by omega
   have hmk : ∀ xs : List Exp, (∀ x ∈ xs, MkE (if d ≤ 1 then 1 else d) x) → (op = 14 ∧ xs.length ≤ 3 ∨ op ≠ 14 ∧ xs.length = argN op) → MkE ((d + 1 : Nat) : Int) (.mk op zeroV 0 0 xs) := fun xs hx hl => by
    have hln : xs.length ≤ 4 ∧ (takesF op < 0 ∨ (xs.length : Int) = takesF op) ∧ takesF op ≠ -2 := by
     rcases hl with ⟨h, hl⟩ | ⟨h, hl⟩
     ·subst h; exact ⟨by omega, .inl (by decide), by decide⟩
     ·rw [takes_argN b1 b2 h, hl]
      refine ⟨?_, .inr rfl, by omega⟩
      unfold argN; split <;> (try split) <;> (try split) <;> omega
    exact mk_op (by omega) hln.2.2 hln.2.1 hln.1 (by decide) (by rw [if_neg (by omega), if_neg (by omega), if_neg (by omega)]; decide) (by decide) (by rw [if_neg (by omega)]; decide) (by omega) (fun x h => hsub x (hx x h))
   by_cases h14 : op = 14
   ·obtain ⟨k, n3, c3, k0, k4, hn3⟩ := hnum n2 hn2 4 (by omega)
    obtain ⟨N, rfl⟩ : ∃ N : Nat, k = N := ⟨k.toNat, by omega⟩
    suffices hh : ∃ x, lcall E 267 [.ptr 0 0, .d (.i .i64 ((d + 1 : Nat) : Int))] [pbox l n] = some x ∧ ∃ (e : Exp) (n' : Nat), x = (e.arg, [pbox l n']) ∧ n' ≤ l.length ∧ MkE ((d + 1 : Nat) : Int) e by
     obtain ⟨x, h1, e, n', rfl, h2, h3⟩ := hh
     exact ⟨e, n', h1, h2, by rw [hif]; exact h3⟩
    refine call_qP e267 ?_
    have n21 : ¬ op = 21 := by omega
    have n22 : ¬ op = 22 := by omega
    have n11 : ¬ op = 11 := by omega
    have n15 : ¬ op = 15 := by omega
    have n12 : ¬ op = 12 := by omega
    have n16 : ¬ op = 16 := by omega
    simp only [evAll, ↓reduceIte, Nat.reduceEqDiff, Nat.reduceAdd, Nat.reduceLeDiff, Nat.reduceLT, reduceCtorEq, c267, c1, hd1, h6, h12, c2, ← hop, w, eq_true h14, n21, n22, n11, n15, n12, n16, c3]
    refine mk_loop hd ih op true N (by omega) (fun tm n' xs h1 h2 h3 h4 h6 => ?_) N 0 n3 [] (by omega) hn3 rfl (by simp)
    simp only [evAll, ↓reduceIte, Nat.reduceEqDiff, Nat.reduceAdd, Nat.reduceLeDiff, h4, h6]
    exact ⟨.mk op zeroV 0 0 xs, n', rfl, h1, hmk xs h3 (.inl ⟨h14, by omega⟩)⟩
   ·suffices hh : ∃ x, lcall E 267 [.ptr 0 0, .d (.i .i64 ((d + 1 : Nat) : Int))] [pbox l n] = some x ∧ ∃ (e : Exp) (n' : Nat), x = (e.arg, [pbox l n']) ∧ n' ≤ l.length ∧ MkE ((d + 1 : Nat) : Int) e by
     obtain ⟨x, h1, e, n', rfl, h2, h3⟩ := hh
     exact ⟨e, n', h1, h2, by rw [hif]; exact h3⟩
    refine call_qP e267 ?_
    rcases argN_or op with ⟨h, hN⟩ | ⟨h, hN⟩ | ⟨h, hN⟩ | ⟨h, hN⟩
    ·have o1 : (decide (op = 21) || decide (op = 22)) = true := by simpa using h
     rcases h with h | h
     ·simp only [evAll, ↓reduceIte, Nat.reduceEqDiff, Nat.reduceAdd, Nat.reduceLeDiff, Nat.reduceLT, reduceCtorEq, c267, c1, hd1, h6, h12, c2, ← hop, w, eq_true h]
      refine mk_loop hd ih op false 0 (by omega) (fun tm n' xs h1 h2 h3 h4 h6 => ?_) 0 0 n2 [] (by omega) hn2 rfl (by simp)
      simp only [evAll, ↓reduceIte, Nat.reduceEqDiff, Nat.reduceAdd, Nat.reduceLeDiff, h4, h6]
      exact ⟨.mk op zeroV 0 0 xs, n', rfl, h1, hmk xs h3 (.inr ⟨h14, by omega⟩)⟩
     ·have n21 : ¬ op = 21 := by omega
      simp only [evAll, ↓reduceIte, Nat.reduceEqDiff, Nat.reduceAdd, Nat.reduceLeDiff, Nat.reduceLT, reduceCtorEq, c267, c1, hd1, h6, h12, c2, ← hop, w, n21, eq_true h]
      refine mk_loop hd ih op false 0 (by omega) (fun tm n' xs h1 h2 h3 h4 h6 => ?_) 0 0 n2 [] (by omega) hn2 rfl (by simp)
      simp only [evAll, ↓reduceIte, Nat.reduceEqDiff, Nat.reduceAdd, Nat.reduceLeDiff, h4, h6]
      exact ⟨.mk op zeroV 0 0 xs, n', rfl, h1, hmk xs h3 (.inr ⟨h14, by omega⟩)⟩
    ·have n21 : ¬ op = 21 := by omega
     have n22 : ¬ op = 22 := by omega
     rcases h with h | h
     ·simp only [evAll, ↓reduceIte, Nat.reduceEqDiff, Nat.reduceAdd, Nat.reduceLeDiff, Nat.reduceLT, reduceCtorEq, c267, c1, hd1, h6, h12, c2, ← hop, w, n21, n22, eq_true h]
      refine mk_loop hd ih op false 1 (by omega) (fun tm n' xs h1 h2 h3 h4 h6 => ?_) 1 0 n2 [] (by omega) hn2 rfl (by simp)
      simp only [evAll, ↓reduceIte, Nat.reduceEqDiff, Nat.reduceAdd, Nat.reduceLeDiff, h4, h6]
      exact ⟨.mk op zeroV 0 0 xs, n', rfl, h1, hmk xs h3 (.inr ⟨h14, by omega⟩)⟩
     ·have n11 : ¬ op = 11 := by omega
      simp only [evAll, ↓reduceIte, Nat.reduceEqDiff, Nat.reduceAdd, Nat.reduceLeDiff, Nat.reduceLT, reduceCtorEq, c267, c1, hd1, h6, h12, c2, ← hop, w, n21, n22, n11, eq_true h]
      refine mk_loop hd ih op false 1 (by omega) (fun tm n' xs h1 h2 h3 h4 h6 => ?_) 1 0 n2 [] (by omega) hn2 rfl (by simp)
      simp only [evAll, ↓reduceIte, Nat.reduceEqDiff, Nat.reduceAdd, Nat.reduceLeDiff, h4, h6]
      exact ⟨.mk op zeroV 0 0 xs, n', rfl, h1, hmk xs h3 (.inr ⟨h14, by omega⟩)⟩
    ·have n21 : ¬ op = 21 := by omega
     have n22 : ¬ op = 22 := by omega
     have n11 : ¬ op = 11 := by omega
     have n15 : ¬ op = 15 := by omega
     rcases h with h | h
     ·simp only [evAll, ↓reduceIte, Nat.reduceEqDiff, Nat.reduceAdd, Nat.reduceLeDiff, Nat.reduceLT, reduceCtorEq, c267, c1, hd1, h6, h12, c2, ← hop, w, n21, n22, n11, n15, eq_true h]
      refine mk_loop hd ih op false 3 (by omega) (fun tm n' xs h1 h2 h3 h4 h6 => ?_) 3 0 n2 [] (by omega) hn2 rfl (by simp)
      simp only [evAll, ↓reduceIte, Nat.reduceEqDiff, Nat.reduceAdd, Nat.reduceLeDiff, h4, h6]
      exact ⟨.mk op zeroV 0 0 xs, n', rfl, h1, hmk xs h3 (.inr ⟨h14, by omega⟩)⟩
     ·have n12 : ¬ op = 12 := by omega
      simp only [evAll, ↓reduceIte, Nat.reduceEqDiff, Nat.reduceAdd, Nat.reduceLeDiff, Nat.reduceLT, reduceCtorEq, c267, c1, hd1, h6, h12, c2, ← hop, w, n21, n22, n11, n15, n12, eq_true h]
      refine mk_loop hd ih op false 3 (by omega) (fun tm n' xs h1 h2 h3 h4 h6 => ?_) 3 0 n2 [] (by omega) hn2 rfl (by simp)
      simp only [evAll, ↓reduceIte, Nat.reduceEqDiff, Nat.reduceAdd, Nat.reduceLeDiff, h4, h6]
      exact ⟨.mk op zeroV 0 0 xs, n', rfl, h1, hmk xs h3 (.inr ⟨h14, by omega⟩)⟩
    ·have n21 : ¬ op = 21 := by omega
     have n22 : ¬ op = 22 := by omega
     have n11 : ¬ op = 11 := by omega
     have n15 : ¬ op = 15 := by omega
     have n12 : ¬ op = 12 := by omega
     have n16 : ¬ op = 16 := by omega
     simp only [evAll, ↓reduceIte, Nat.reduceEqDiff, Nat.reduceAdd, Nat.reduceLeDiff, Nat.reduceLT, reduceCtorEq, c267, c1, hd1, h6, h12, c2, ← hop, w, n21, n22, n11, n15, n12, n16, h14]
     refine mk_loop hd ih op false 2 (by omega) (fun tm n' xs h1 h2 h3 h4 h6 => ?_) 2 0 n2 [] (by omega) hn2 rfl (by simp)
     simp only [evAll, ↓reduceIte, Nat.reduceEqDiff, Nat.reduceAdd, Nat.reduceLeDiff, h4, h6]
     exact ⟨.mk op zeroV 0 0 xs, n', rfl, h1, hmk xs h3 (.inr ⟨h14, by omega⟩)⟩
end Ab.Vx
