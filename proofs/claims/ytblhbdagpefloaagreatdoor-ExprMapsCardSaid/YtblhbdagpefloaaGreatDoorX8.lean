/-
 What an expression comes to.
-/
import Derived.Test.YtblhbdagpefloaaGreatDoorXP2
namespace Ab.Vx
open Go
set_option linter.unusedVariables false
set_option linter.unusedSimpArgs false
set_option maxRecDepth 100000
variable {E : Nat → Option Fn}
def fitG (v : GVal) : GVal := if 60 < szN v then badG 6 else v
def choiceG (rs : List GVal) : GVal := match rs with
 | c :: a :: b :: _ => if c.kind = 7 then c else if c.kind = 2 then (if c.i = 0 then b else a) else badG 4
 | _ => badG 1
def firstBad : List GVal → Option GVal
 | [] => none
 | x :: r => if x.kind = 7 then some x else firstBad r
def restG (op : Int) (l : List GVal) : GVal := match firstBad l with
 | some y => y
 | none => ofG op l
def cutG {α : Type} (n : Int) (rs : List α) : List α := if 0 ≤ n then rs.take n.toNat else rs
def coreG (vs : List (List GVal)) (ts : List (List UInt8)) (op : Int) (v : GVal) (occ attr : Int) (rs : List GVal) : GVal :=
 if takesF op = -2 ∨ (rs.length : Int) < takesF op then badG 1 else if op = 0 then v else if op = 1 then refG vs occ attr else if op = 2 ∨ op = 3 then textG ts op occ else if op = 12 then choiceG rs else restG op (cutG (takesF op) rs)
mutual
def evalF (vs : List (List GVal)) (ts : List (List UInt8)) : Exp → GVal
 | .mk op v occ attr l => fitG (coreG vs ts op v occ attr (evalL vs ts l))
def evalL (vs : List (List GVal)) (ts : List (List UInt8)) : List Exp → List GVal
 | [] => []
 | x :: r => evalF vs ts x :: evalL vs ts r
end
theorem evalL_map (vs : List (List GVal)) (ts : List (List UInt8)) : ∀ (l : List Exp), evalL vs ts l = l.map (evalF vs ts)
 | [] => rfl
 | x :: r => by simp [evalL, evalL_map vs ts r]
theorem evalF_eq (vs : List (List GVal)) (ts : List (List UInt8)) (e : Exp) : evalF vs ts e = fitG (coreG vs ts e.op e.v e.occ e.attr (e.args.map (evalF vs ts))) := by
 cases e; simp only [evalF, evalL_map]; rfl
inductive GdE : Exp → Prop where
 | mk {op : Int} {v : GVal} {occ attr : Int} {l : List Exp} (hv : op = 0 → Gd v) (hl : ∀ x ∈ l, GdE x) (hn : l.length ≤ 15) : GdE (.mk op v occ attr l)
theorem GdE.v {e : Exp} (h : GdE e) : e.op = 0 → Gd e.v := by cases h; assumption
theorem GdE.args {e : Exp} (h : GdE e) : ∀ x ∈ e.args, GdE x := by cases h; assumption
theorem GdE.len {e : Exp} (h : GdE e) : e.args.length ≤ 15 := by cases h; assumption
structure GdR (vs : List (List GVal)) (ts : List (List UInt8)) : Prop where
 vals : ∀ l ∈ vs, ∀ v ∈ l, Gd v
 texts : ∀ s ∈ ts, s.length ≤ 1000000
theorem gd_bad {e : Int} (h : 1 ≤ e ∧ e ≤ 13) : Gd (badG e) := ⟨may_bad h, by rw [szN_eq]; simp [badG, gF, szL]⟩
theorem fit_gd {v : GVal} (h : mayV v = true) : Gd (fitG v) := by
 unfold fitG
 split
 ·exact gd_bad (by decide)
 ·exact ⟨h, by omega⟩
theorem fit_of {v : GVal} (h : szN v ≤ 60) : fitG v = v := by unfold fitG; rw [if_neg (by omega)]
theorem firstBad_mem {x : GVal} : ∀ {l : List GVal}, firstBad l = some x → x ∈ l
 | y :: r, h => by
  simp only [firstBad] at h
  split at h
  ·cases h; simp
  ·exact List.mem_cons_of_mem _ (firstBad_mem h)
theorem firstBad_none : ∀ {l : List GVal}, firstBad l = none → ∀ x ∈ l, x.kind ≠ 7
 | y :: r, h, x, hx => by
  simp only [firstBad] at h
  split at h
  ·cases h
  ·rcases List.mem_cons.1 hx with rfl | hx
   ·assumption
   ·exact firstBad_none h x hx
theorem refG_gd {vs : List (List GVal)} {ts : List (List UInt8)} (hr : GdR vs ts) (occ attr : Int) : Gd (refG vs occ attr) := by
 unfold refG
 split
 ·rename_i h
  unfold inB at h
  simp only [Bool.and_eq_true, decide_eq_true_eq] at h
  have h2 := List.mem_of_getElem? (atD_in (z := zeroV) h.1 h.2)
  by_cases ho : 0 ≤ occ ∧ occ < vs.length
  ·exact hr.vals _ (List.mem_of_getElem? (atD_in (z := []) ho.1 ho.2)) _ h2
  ·rw [atD_out ho] at h; simp at h; omega
 ·exact gd_bad (by decide)
theorem textG_may (ts : List (List UInt8)) (op occ : Int) : mayV (textG ts op occ) = true := by
 unfold textG
 split
 ·split
  ·exact may_str _
  ·split
   ·exact may_int _
   ·exact may_bad (by decide)
 ·exact may_bad (by decide)
theorem cut_sub {α : Type} {n : Int} {rs : List α} : ∀ x ∈ cutG n rs, x ∈ rs := fun x hx => by
 unfold cutG at hx
 split at hx
 ·exact List.mem_of_mem_take hx
 ·exact hx
theorem core_may {vs : List (List GVal)} {ts : List (List UInt8)} (hr : GdR vs ts) {op : Int} {v : GVal} {occ attr : Int} {rs : List GVal} (hv : op = 0 → Gd v) (hrs : ∀ x ∈ rs, Gd x) : mayV (coreG vs ts op v occ attr rs) = true := by
 unfold coreG
 split
 ·exact may_bad (by decide)
 split
 ·rename_i h; exact (hv h).may
 split
 ·exact (refG_gd hr _ _).may
 split
 ·exact textG_may _ _ _
 split
 ·unfold choiceG
  split
  ·rename_i c a b r _
   repeat' split
   ·exact (hrs c (by simp)).may
   ·exact (hrs b (by simp)).may
   ·exact (hrs a (by simp)).may
   ·exact may_bad (by decide)
  ·exact may_bad (by decide)
 ·unfold restG
  split
  ·rename_i y hy
   exact (hrs y (cut_sub y (firstBad_mem hy))).may
  ·rename_i hn
   exact may_of fun x hx => ⟨(hrs x (cut_sub x hx)).may, firstBad_none hn x hx⟩
theorem evalF_gd {vs : List (List GVal)} {ts : List (List UInt8)} (hr : GdR vs ts) : ∀ (n : Nat) (e : Exp), sizeOf e < n → GdE e → Gd (evalF vs ts e) := by
 intro n
 induction n with
 | zero => intro e h; omega
 | succ n ih =>
  intro e hs he
  rw [evalF_eq]
  refine fit_gd (core_may hr he.v fun x hx => ?_)
  obtain ⟨y, hy, rfl⟩ := List.mem_map.1 hx
  exact ih y (by have := arg_lt hy; omega) (he.args y hy)
theorem eval_gd {vs : List (List GVal)} {ts : List (List UInt8)} (hr : GdR vs ts) {e : Exp} (he : GdE e) : Gd (evalF vs ts e) := evalF_gd hr _ e (Nat.lt_succ_self _) he
structure EvC (E : Nat → Option Fn) : Prop where
 code : XE E
 ins : InsOk E
 find : FindOk E
 cmp : ∀ (a b : GVal), Small a → Small b → lcall E 114 [a.arg, b.arg] [] = some (.d (.i .i64 (cmpV a b)), [])
 size : ∀ (v : GVal), Small v → szN v ≤ 1000000 → lcall E 112 [v.arg] [] = some (.d (.i .i64 (szN v)), [])
abbrev bxR (vs : List (List GVal)) (ts : List (List UInt8)) : Option Obj := some (.box [.d (.l 1 (valsRows vs)), .d (.l 1 (ts.map strRow))])
theorem choice_ok (A : XE E) {vs : List (List GVal)} {ts : List (List UInt8)} {e a b c : Exp} {r : List Exp} (hargs : e.args = c :: a :: b :: r)
  (hc : ∀ x ∈ e.args, lcall E 277 [rdV vs ts, x.arg] [] = some ((evalF vs ts x).arg, [])) : lcall E 286 [rdV vs ts, e.arg] [] = some ((choiceG (e.args.map (evalF vs ts))).arg, []) := by
 have h1 := hc c (by rw [hargs]; simp)
 have h2 := hc a (by rw [hargs]; simp)
 have h3 := hc b (by rw [hargs]; simp)
 have b4 := bad_ok A 4
 show lcall E 286 [rdV vs ts, .agg [.d (.i .i64 e.op), .d (.i .i64 e.v.kind), .d (.i .i64 e.v.i), .d (.s e.v.s), .d (.l 4 (gvalRows e.v.l)), .d (.i .i64 e.occ), .d (.i .i64 e.attr), .d (.l 8 (e.args.map Exp.row))]] [] = _
 rw [hargs]
 simp only [List.map_cons, choiceG, exp_row]
 refine call_q A.e286 ?_
 generalize evalF vs ts c = v at *
 by_cases k7 : v.kind = 7
 ·rw [if_pos k7]
  simp only [evAll, ↓reduceIte, Nat.reduceEqDiff, Nat.reduceAdd, Nat.reduceLeDiff, reduceCtorEq, Int.reduceLE, Int.reduceToNat, c286, h1, eq_true k7]
  rfl
 rw [if_neg k7]
 by_cases k2 : v.kind = 2
 ·rw [if_pos k2]
  by_cases i0 : v.i = 0
  ·rw [if_pos i0]
   simp only [evAll, ↓reduceIte, Nat.reduceEqDiff, Nat.reduceAdd, Nat.reduceLeDiff, reduceCtorEq, Int.reduceLE, Int.reduceToNat, c286, h1, k7, eq_true k2, eq_true i0, h3]
   exact ⟨by rfl, by rfl⟩
  ·rw [if_neg i0]
   simp only [evAll, ↓reduceIte, Nat.reduceEqDiff, Nat.reduceAdd, Nat.reduceLeDiff, reduceCtorEq, Int.reduceLE, Int.reduceToNat, c286, h1, k7, eq_true k2, i0, h2]
   exact ⟨by rfl, by rfl⟩
 ·rw [if_neg k2]
  simp only [evAll, ↓reduceIte, Nat.reduceEqDiff, Nat.reduceAdd, Nat.reduceLeDiff, reduceCtorEq, Int.reduceLE, Int.reduceToNat, c286, h1, k7, k2, b4]
  rfl
def evLoop : CCode := match c277.body with
 | .seq _ (.seq _ (.seq (.block _ (.seq _ (.cond _ _ (.seq _ (.cond _ _ (.seq _ (.cond _ _ (.seq _ (.cond _ _ (.seq _ (.cond _ _ (.seq _ (.seq _ (.seq _ (.seq (.seq _ (.block _ (.loop _ c))) _))))))))))))))) _)) => c
 | _ => .skip
abbrev bxE (e : Exp) : Option Obj := some (.box [.d (.i .i64 e.op), .d (.i .i64 e.v.kind), .d (.i .i64 e.v.i), .d (.s e.v.s), .d (.l 4 (gvalRows e.v.l)), .d (.i .i64 e.occ), .d (.i .i64 e.attr), .d (.l 8 (e.args.map Exp.row))])
abbrev bxV (v : GVal) : Option Obj := some (.box [.d (.i .i64 v.kind), .d (.i .i64 v.i), .d (.s v.s), .d (.l 4 (gvalRows v.l))])
abbrev bxZ : Option Obj := some (.box [.d (.i .i64 0), .d (.i .i64 0), .d (.s []), .d (.l 4 [])])
theorem app_row (out : List GVal) (v : GVal) : gvalRows out ++ [[.i .i64 v.kind, .i .i64 v.i, .s v.s, .l 4 (gvalRows v.l)]] = gvalRows (out ++ [v]) := by
 rw [gvalRows_append]; simp [gvalRows, row_eq]
set_option maxHeartbeats 1000000 in
theorem ev_loop {vs : List (List GVal)} {ts : List (List UInt8)} {e : Exp} {l : List Exp} (hl : l.length ≤ 100) (hc : ∀ x ∈ l, lcall E 277 [rdV vs ts, x.arg] [] = some ((evalF vs ts x).arg, [])) {Q : Ex → St → Prop} :
  ∀ (m i : Nat) (out : List GVal), i + m = l.length → out.length = i →
  (∀ y tm tl, firstBad ((l.drop i).map (evalF vs ts)) = some y → look tm 4 = .ptr 2 0 → Q .ret ⟨tm, bxR vs ts :: bxE e :: bxV y :: tl⟩) →
  (∀ tm, firstBad ((l.drop i).map (evalF vs ts)) = none → look tm 3 = .ptr 1 0 → look tm 4 = .ptr 2 0 → look tm 7 = .own 3 0 4 (gvalRows (out ++ (l.drop i).map (evalF vs ts))) → Q (.exit 1) ⟨tm, [bxR vs ts, bxE e, bxZ, some (.tok 0 4)]⟩) →
  LX E evLoop ⟨[2, 3, 4, 7, 21, 22, 23], [7], [], [], [(4, 3)], true⟩ 4 ⟨[(2, .ptr 0 0), (3, .ptr 1 0), (4, .ptr 2 0), (7, .own 3 0 4 (gvalRows out)), (21, .d (.l 8 (l.map Exp.row))), (22, .d (.i .i64 l.length)), (23, .d (.i .i64 i))], [bxR vs ts, bxE e, bxZ, some (.tok 0 4)]⟩ Q := by
 intro m
 induction m with
 | zero =>
  intro i out hi ho hb hg
  have hn : ¬ ((i : Int) < l.length) := by omega
  rw [List.drop_eq_nil_of_le (by omega)] at hg
  simp only [List.map_nil, List.append_nil] at hg
  refine lx_step ?_
  simp only [evAll, ↓reduceIte, Nat.reduceEqDiff, Nat.reduceAdd, Int.reduceNeg, loopQ, evLoop, c277, hn]
  exact hg _ rfl rfl rfl rfl
 | succ m ih =>
  intro i out hi ho hb hg
  have hy : (i : Int) < l.length := by omega
  have la : i < l.length := by omega
  have h0 : (0 : Int) ≤ i := by omega
  have ga : (l.map Exp.row)[i]? = some (Exp.row l[i]) := by rw [List.getElem?_map, List.getElem?_eq_getElem la]; rfl
  have w : IntKind.i64.wrap ((i : Int) + 1) = ((i + 1 : Nat) : Int) := by rw [i64_in (by omega) (by omega)]; omega
  have c1 := hc _ (List.getElem_mem la)
  rw [List.drop_eq_getElem_cons la] at hb hg
  simp only [List.map_cons, firstBad] at hb hg
  generalize l[i] = x at *
  rw [exp_row] at ga
  generalize evalF vs ts x = v at *
  have r2 : roomy (out.length + 1) 56 = true := by unfold roomy; exact decide_eq_true (by omega)
  have gl := gvalRows_length out
  refine lx_step ?_
  by_cases h7 : v.kind = 7
  ·rw [if_pos h7] at hb
   simp only [evAll, ↓reduceIte, Nat.reduceEqDiff, Nat.reduceAdd, Nat.reduceLeDiff, Nat.reduceLT, Int.reduceNeg, loopQ, evLoop, c277, eq_true hy, h0, ga, c1, eq_true h7]
   exact hb _ _ _ rfl rfl
  ·rw [if_neg h7] at hb hg
   simp only [evAll, ↓reduceIte, Nat.reduceEqDiff, Nat.reduceAdd, Nat.reduceLeDiff, Nat.reduceLT, Int.reduceNeg, loopQ, evLoop, c277, eq_true hy, h0, ga, c1, h7, gl, r2, app_row, w]
   refine ⟨_, rfl, ih (i + 1) (out ++ [v]) (by omega) (by simp [ho]) hb (fun tm h1 h3 h4 h7 => hg tm h1 h3 h4 ?_)⟩
   rw [h7, List.append_assoc]; rfl
end Ab.Vx
