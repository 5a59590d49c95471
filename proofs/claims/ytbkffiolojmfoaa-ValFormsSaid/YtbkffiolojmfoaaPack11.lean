/-
  A value of the caller's own: mine, Ins.
-/
import Derived.Test.YtbkffiolojmfoaaPack10
import Derived.Test.YtbkffiolojmfoaaPack6
set_option linter.unusedSimpArgs false
set_option linter.unusedVariables false
set_option linter.unusedSectionVars false
set_option linter.unnecessarySimpa false
namespace Ab
open Go
set_option linter.unusedVariables false
set_option linter.unusedSimpArgs false
set_option maxRecDepth 100000
variable {E : Nat → Option Fn}

def mineR (v : Val) : V × List (Option Obj) := (.agg [.d (.i .i64 v.kind), .d (.i .i64 v.i), .d (.s v.s), .arr 0 0 0 v.l.length], [some (.arr 0 4 ((valRows v.l).map ofDs))])

theorem clone_call (h146 : E 146 = some (.prim (cloneImpl 4 56))) (l : List Val) (hl : l.length ≤ 1000) : lcall E 146 [.d (.l 4 (valRows l))] [] = some (.arr 0 0 0 l.length, [some (.arr 0 4 ((valRows l).map ofDs))]) := by
  have r : roomy (valRows l).length 56 = true := roomy_in (by rw [valRows_length]; omega)
  rw [valRows_length] at r
  rw [lcall_prim h146]
  simp only [cloneImpl, valRows_length, r, and_self, if_true]

theorem toDs_ofDs : ∀ (ds : List D), V.toDs (ofDs ds) = some ds
  | [] => rfl
  | d :: ds => by
    have := toDs_ofDs ds
    unfold ofDs at *
    simp only [List.map_cons, V.toDs, V.toD, this]

theorem rowsD_ofDs : ∀ (rs : List (List D)), rowsD (rs.map ofDs) = some rs
  | [] => rfl
  | r :: rs => by simp only [List.map_cons, rowsD, toDs_ofDs, rowsD_ofDs rs]

theorem settle_mine (a b c : D) (l : List Val) : settle 0 (.agg [.d a, .d b, .d c, .arr 0 0 0 l.length]) [some (.arr 0 4 ((valRows l).map ofDs))] = some (.agg [.d a, .d b, .d c, .d (.l 4 (valRows l))], []) := by
  have h2 : (valRows l).take l.length = valRows l := by rw [← valRows_length, List.take_length]
  simp [settle, ansIds, arrIdsAll, V.arrIds, frzA, frzAll, frz1, rowsD_ofDs, V.refs, V.refsAll, reach, renObjs, V.ren, V.renAll, valRows_length, h2]

theorem renAll_data (f g : Nat → Nat) : ∀ (ds : List D), V.renAll f g (ofDs ds) = ofDs ds
  | [] => rfl
  | d :: ds => by
    have := renAll_data f g ds
    unfold ofDs at *
    simp only [List.map_cons, V.renAll, V.ren, this]

theorem renRows_data (f g : Nat → Nat) : ∀ (rs : List (List D)), renRows f g (rs.map ofDs) = rs.map ofDs
  | [] => rfl
  | r :: rs => by simp only [List.map_cons, renRows, renAll_data, renRows_data f g rs]

theorem underAll_data (n : Nat) : ∀ (ds : List D), V.underAll n (ofDs ds) = true
  | [] => rfl
  | d :: ds => by
    have := underAll_data n ds
    unfold ofDs at *
    simp only [List.map_cons, V.underAll, V.under, this, Bool.and_self]

theorem underRows_data (n : Nat) : ∀ (rs : List (List D)), underRows n (rs.map ofDs) = true
  | [] => rfl
  | r :: rs => by simp only [List.map_cons, underRows, underAll_data, underRows_data n rs, Bool.and_self]

theorem normRow_data (h : List (Option Obj)) : ∀ (ds : List D), (ofDs ds).map (normC h) = ofDs ds
  | [] => rfl
  | d :: ds => by
    have := normRow_data h ds
    unfold ofDs at *
    simp only [List.map_cons, normC, V.fine, if_true, this]

theorem normRows_data (h : List (Option Obj)) : ∀ (rs : List (List D)), (rs.map ofDs).map (fun r => r.map (normC h)) = rs.map ofDs
  | [] => rfl
  | r :: rs => by simp only [List.map_cons, normRow_data, normRows_data h rs]

theorem refsAll_data : ∀ (ds : List D), V.refsAll (ofDs ds) = []
  | [] => rfl
  | d :: ds => by
    have := refsAll_data ds
    unfold ofDs at *
    simp only [List.map_cons, V.refsAll, V.refs, this, List.append_nil]

theorem refsRows_data : ∀ (rs : List (List D)), refsRows (rs.map ofDs) = []
  | [] => rfl
  | r :: rs => by simp only [List.map_cons, refsRows, refsAll_data, refsRows_data rs, List.append_nil]

theorem range_one (a : Nat) : List.range' a 1 = [a] := rfl

def mineLoop : CCode := match c132.body with
  | .seq _ (.seq _ (.seq (.seq _ (.block _ (.loop _ c))) _)) => c
  | _ => .skip

theorem mine_loop {v : Val} (hl : v.l.length ≤ 1000) (hm : ∀ x ∈ v.l, lcall E 132 [x.arg] [] = some (mineR x)) {Q : Ex → St → Prop}
    (hx : ∀ tm, look tm 1 = .ptr 0 0 → look tm 2 = .ptr 1 0 → look tm 3 = .arr 2 0 0 v.l.length → Q (.exit 0) ⟨tm, [vbox v, zbox, some (.arr 0 4 ((valRows v.l).map ofDs)), none, none, none]⟩) :
    ∀ (m i : Nat), i + m = v.l.length →
      LX E mineLoop ⟨[1, 2, 3, 9, 10, 11], [], [], [], [], true⟩ 6 ⟨[(1, .ptr 0 0), (2, .ptr 1 0), (3, .arr 2 0 0 v.l.length), (9, .arr 2 0 0 v.l.length), (10, .d (.i .i64 v.l.length)), (11, .d (.i .i64 i))], [vbox v, zbox, some (.arr 0 4 ((valRows v.l).map ofDs)), none, none, none]⟩ Q := by
  intro m
  induction m with
  | zero =>
    intro i hi
    have hn : ¬ ((i : Int) < v.l.length) := by omega
    refine lx_step (wx_seq ?_)
    refine wx_region fun K hK => ?_
    simp only [evW, evX, evM, evN, evC, far, ↓reduceIte, Nat.reduceEqDiff, Nat.reduceAdd, Nat.reduceLeDiff, Nat.reduceSub, Nat.reduceLT, reduceCtorEq, not_true_eq_false, not_false_eq_true, Int.reduceEq, Int.reduceLT, Int.reduceLE, Int.reduceNeg, hn]
    refine hK _ _ ?_; clear hK K
    refine wx_seq (wx_cond false rfl (fun h => by cases h) (fun _ => wx_exit ?_))
    exact hx _ rfl rfl rfl
  | succ m ih =>
    intro i hi
    have hy : (i : Int) < v.l.length := by omega
    have la : i < v.l.length := by omega
    have h0 : (0 : Int) ≤ i := by omega
    have hr : ∀ x : Val, ofDs (Val.row x) = [.d (.i .i64 x.kind), .d (.i .i64 x.i), .d (.s x.s), .d (.l 4 (valRows x.l))] := fun x => by rw [row_eq]; rfl
    have ga : ((valRows v.l).map ofDs)[i]? = some [.d (.i .i64 v.l[i].kind), .d (.i .i64 v.l[i].i), .d (.s v.l[i].s), .d (.l 4 (valRows v.l[i].l))] := by rw [List.getElem?_map, valRows_get, List.getElem?_eq_getElem la, ← hr]; rfl
    have hcall := hm v.l[i] (List.getElem_mem la)
    have hset : ((valRows v.l).map ofDs).set i [.d (.i .i64 v.l[i].kind), .d (.i .i64 v.l[i].i), .d (.s v.l[i].s), .d (.l 4 (valRows v.l[i].l))] = (valRows v.l).map ofDs := by
      apply List.ext_getElem?
      intro j
      rw [List.getElem?_set]
      split
      · rename_i e; subst e; rw [ga, if_pos]; simpa [valRows_length] using la
      · rfl
    have w : IntKind.i64.wrap ((i : Int) + 1) = ((i + 1 : Nat) : Int) := by rw [i64_in (by omega) (by omega)]; omega
    generalize v.l[i] = x at *
    refine lx_step (wx_seq ?_)
    refine wx_region fun K hK => ?_
    simp only [evW, evX, evM, evN, evC, far, ↓reduceIte, Nat.reduceEqDiff, Nat.reduceAdd, Nat.reduceLeDiff, Nat.reduceSub, Nat.reduceLT, reduceCtorEq, not_true_eq_false, not_false_eq_true, Int.reduceEq, Int.reduceLT, Int.reduceLE, Int.reduceNeg, hy]
    refine hK _ _ ?_; clear hK K
    refine wx_seq (wx_cond true rfl (fun _ => wx_skip ?_) (fun h => by cases h))
    refine wx_seq (wx_block ?_)
    refine wx_seq (wx_region fun K hK => ?_)
    simp only [evW, evX, evM, evN, evC, far, ↓reduceIte, Nat.reduceEqDiff, Nat.reduceAdd, Nat.reduceLeDiff, Nat.reduceSub, Nat.reduceLT, reduceCtorEq, not_true_eq_false, not_false_eq_true, Int.reduceEq, Int.reduceLT, Int.reduceLE, Int.reduceNeg, hy, h0, Int.toNat_natCast, ga]
    refine hK _ _ ?_; clear hK K
    have hst : ∀ hp, stA 4 2 0 i 0 hp (some [.d (.i .i64 x.kind), .d (.i .i64 x.i), .d (.s x.s), .d (.l 4 (valRows x.l))]) (some (.arr 0 4 ((valRows v.l).map ofDs))) = some (hp.set 2 (some (.arr 0 4 ((valRows v.l).map ofDs)))) := fun hp => by
      simp [stA, ga, over, hset]
    refine wx_region fun K hK => ?_
    simp only [evW, evX, evM, evN, evC, far, ↓reduceIte, Nat.reduceEqDiff, Nat.reduceAdd, Nat.reduceLeDiff, Nat.reduceSub, Nat.reduceLT, reduceCtorEq, not_true_eq_false, not_false_eq_true, Int.reduceEq, Int.reduceLT, Int.reduceLE, Int.reduceNeg, hcall, mineR, settle_mine, hy, h0, Int.toNat_natCast, ga, hst]
    refine hK _ _ ?_; clear hK K
    refine wx_region fun K hK => ?_
    simp only [evW, evX, evM, evN, evC, far, ↓reduceIte, Nat.reduceEqDiff, Nat.reduceAdd, Nat.reduceLeDiff, Nat.reduceSub, Nat.reduceLT, reduceCtorEq, not_true_eq_false, not_false_eq_true, Int.reduceEq, Int.reduceLT, Int.reduceLE, Int.reduceNeg, w]
    refine hK _ _ ?_; clear hK K
    refine ⟨_, ?_, ih (i + 1) (by omega)⟩
    simp only [evH, evX, evN, ↓reduceIte, Nat.reduceEqDiff, Nat.reduceAdd, Nat.reduceLeDiff, Nat.reduceLT, Nat.reduceSub, reduceCtorEq, underRows_data, normRows_data]

theorem mine_ok (h132 : E 132 = some (.code c132)) (h146 : E 146 = some (.prim (cloneImpl 4 56))) {v : Val} (h : Small v) : lcall E 132 [v.arg] [] = some (mineR v) := by
  induction h with
  | mk hl hs ih =>
    rename_i v
    have hc := clone_call h146 v.l hl
    refine call_wx h132 ?_
    refine wx_seq (wx_region fun K hK => ?_)
    simp only [evW, evX, evM, evN, evC, far, ↓reduceIte, Nat.reduceEqDiff, Nat.reduceAdd, Nat.reduceLeDiff, Nat.reduceSub, Nat.reduceLT, reduceCtorEq, not_true_eq_false, not_false_eq_true, Int.reduceEq, Int.reduceLT, Int.reduceLE, Int.reduceNeg]
    refine hK _ _ ?_; clear hK K
    refine wx_seq (wx_region fun K hK => ?_)
    simp only [evW, evX, evM, evN, evC, far, ↓reduceIte, Nat.reduceEqDiff, Nat.reduceAdd, Nat.reduceLeDiff, Nat.reduceSub, Nat.reduceLT, reduceCtorEq, not_true_eq_false, not_false_eq_true, Int.reduceEq, Int.reduceLT, Int.reduceLE, Int.reduceNeg, hc, renRows_data, range_one]
    refine hK _ _ ?_; clear hK K
    refine wx_seq (wx_seq ?_)
    refine wx_region fun K hK => ?_
    simp only [evW, evX, evM, evN, evC, far, ↓reduceIte, Nat.reduceEqDiff, Nat.reduceAdd, Nat.reduceLeDiff, Nat.reduceSub, Nat.reduceLT, reduceCtorEq, not_true_eq_false, not_false_eq_true, Int.reduceEq, Int.reduceLT, Int.reduceLE, Int.reduceNeg]
    refine hK _ _ ?_; clear hK K
    refine wx_block (wx_loop ?_)
    simp only [evH, evX, evN, ↓reduceIte, Nat.reduceEqDiff, Nat.reduceAdd, Nat.reduceLeDiff, Nat.reduceLT, Nat.reduceSub, reduceCtorEq, underRows_data, normRows_data]
    refine mine_loop hl ih (fun tm t1 t2 t3 => ?_) v.l.length 0 (by omega)
    refine wx_seq (wx_region fun K hK => ?_)
    simp only [evW, evX, evM, evN, evC, far, ↓reduceIte, Nat.reduceEqDiff, Nat.reduceAdd, Nat.reduceLeDiff, Nat.reduceSub, Nat.reduceLT, reduceCtorEq, not_true_eq_false, not_false_eq_true, Int.reduceEq, Int.reduceLT, Int.reduceLE, Int.reduceNeg, t1, t2, t3]
    refine hK _ _ ?_; clear hK K
    refine wx_seq (wx_region fun K hK => ?_)
    simp only [evW, evX, evM, evN, evC, far, ↓reduceIte, Nat.reduceEqDiff, Nat.reduceAdd, Nat.reduceLeDiff, Nat.reduceSub, Nat.reduceLT, reduceCtorEq, not_true_eq_false, not_false_eq_true, Int.reduceEq, Int.reduceLT, Int.reduceLE, Int.reduceNeg, t1, t2, t3]
    refine hK _ _ ?_; clear hK K
    refine wx_ret ⟨.inr rfl, ?_⟩
    simp only [evR, evX, evC, evN, ↓reduceIte, Nat.reduceEqDiff, Nat.reduceAdd, Nat.reduceLeDiff, Nat.reduceLT, Nat.reduceSub, reduceCtorEq, far, c132, t1, t2, t3, mineR, renRows_data, refsRows_data]
end Ab

/-
  Ins: a row with one more.
-/
namespace Ab
open Go
set_option linter.unusedVariables false
set_option linter.unusedSimpArgs false
set_option maxRecDepth 100000
variable {E : Nat → Option Fn}

theorem settle_row (l : List Val) : settle 0 (.arr 0 0 0 l.length) [some (.arr 0 4 ((valRows l).map ofDs))] = some (.d (.l 4 (valRows l)), []) := by
  have h2 : (valRows l).take l.length = valRows l := by rw [← valRows_length, List.take_length]
  simp [settle, ansIds, V.arrIds, frzA, frz1, rowsD_ofDs, V.refs, reach, renObjs, V.ren, valRows_length, h2]

theorem insert_call (h134 : E 134 = some (.prim insImpl)) (l : List Val) (v : Val) (i : Nat) (hi : i ≤ l.length) (hl : l.length ≤ 1000) :
    lcall E 134 [.arr 0 0 0 l.length, .d (.i .i64 i), .d (.l 4 [v.row])] [some (.arr 0 4 ((valRows l).map ofDs))] = some (.d (.l 4 (valRows (l.take i ++ v :: l.drop i))), [some (.arr 1 4 [])]) := by
  have e : insRows (valRows l) i v.row = valRows (l.take i ++ v :: l.drop i) := by simp [insRows, valRows_append, valRows_take, valRows_drop, valRows]
  rw [lcall_prim h134]
  simp only [insImpl, rowsD_ofDs]
  rw [if_pos ⟨trivial, by simp [valRows_length], by omega, by omega, by omega⟩]
  simp only [Int.toNat_natCast, e]

theorem ins116_ok (h116 : E 116 = some (.code c116)) (h133 : E 133 = some (.code c133)) (h147 : E 147 = some (.code c147)) (h134 : E 134 = some (.prim insImpl)) (hmine : ∀ v, Small v → lcall E 132 [v.arg] [] = some (mineR v))
    (hcmp : ∀ (a b : Val), Small a → Small b → lcall E 114 [a.arg, b.arg] [] = some (.d (.i .i64 (cmpV a b)), [])) {l : List Val} (hl : l.length ≤ 1000) (hs : ∀ x ∈ l, Small x) {v : Val} (hv : Small v) (hch : chainB ltV l = true) :
    ∃ r h, lcall E 116 [.d (.l 4 (valRows l)), v.arg] [] = some (r, h) ∧ settle 0 r h = some (.d (.l 4 (valRows (insV l v))), []) := by
  have hm := hmine (.mk 0 0 [] l) (small_mk hl hs)
  have hp := place133_ok h133 h147 hl (t := v) (f := 114) (c := fun x => cmpV x v) (fun x hx => hcmp x v (hs x hx) hv) (part_cmp v hch)
  have hv2 := hmine v hv
  have hle := posV_le v l
  simp only [Val.arg, Val.kind, Val.i, Val.s, Val.l, mineR] at hm
  refine (call_wxP h116 (R := fun x => settle 0 x.1 x.2 = some (.d (.l 4 (valRows (insV l v))), [])) ?_).elim fun x hx => ⟨x.1, x.2, hx.1, hx.2⟩
  refine wx_seq (wx_region fun K hK => ?_)
  simp only [evW, evX, evM, evN, evC, far, ↓reduceIte, Nat.reduceEqDiff, Nat.reduceAdd, Nat.reduceLeDiff, Nat.reduceSub, Nat.reduceLT, reduceCtorEq, not_true_eq_false, not_false_eq_true, Int.reduceEq, Int.reduceLT, Int.reduceLE, Int.reduceNeg]
  refine hK _ _ ?_; clear hK K
  refine wx_seq (wx_region fun K hK => ?_)
  simp only [evW, evX, evM, evN, evC, far, ↓reduceIte, Nat.reduceEqDiff, Nat.reduceAdd, Nat.reduceLeDiff, Nat.reduceSub, Nat.reduceLT, reduceCtorEq, not_true_eq_false, not_false_eq_true, Int.reduceEq, Int.reduceLT, Int.reduceLE, Int.reduceNeg, hm, renRows_data, range_one]
  refine hK _ _ ?_; clear hK K
  refine wx_seq (wx_region fun K hK => ?_)
  simp only [evW, evX, evM, evN, evC, far, ↓reduceIte, Nat.reduceEqDiff, Nat.reduceAdd, Nat.reduceLeDiff, Nat.reduceSub, Nat.reduceLT, reduceCtorEq, not_true_eq_false, not_false_eq_true, Int.reduceEq, Int.reduceLT, Int.reduceLE, Int.reduceNeg, hp, renRows_data, range_one]
  refine hK _ _ ?_; clear hK K
  refine wx_seq (wx_seq ?_)
  refine wx_region fun K hK => ?_
  simp only [evW, evX, evM, evN, evC, far, ↓reduceIte, Nat.reduceEqDiff, Nat.reduceAdd, Nat.reduceLeDiff, Nat.reduceSub, Nat.reduceLT, reduceCtorEq, not_true_eq_false, not_false_eq_true, Int.reduceEq, Int.reduceLT, Int.reduceLE, Int.reduceNeg]
  refine hK _ _ ?_; clear hK K
  have hins := insert_call h134 l v (posV v l) hle hl
  have hrow := row_eq v
  cases hh : hasP l (fun x => cmpV x v) (posV v l) with
  | true =>
    have e : insV l v = l := by
      unfold hasP at hh
      unfold insV
      split at hh
      · rename_i x hx
        rw [hx]
        exact if_pos (of_decide_eq_true hh)
      · cases hh
    rw [e]
    refine wx_cond true rfl (fun _ => ?_) (fun h => by cases h)
    refine wx_seq (wx_region fun K hK => ?_)
    simp only [evW, evX, evM, evN, evC, far, ↓reduceIte, Nat.reduceEqDiff, Nat.reduceAdd, Nat.reduceLeDiff, Nat.reduceSub, Nat.reduceLT, reduceCtorEq, not_true_eq_false, not_false_eq_true, Int.reduceEq, Int.reduceLT, Int.reduceLE, Int.reduceNeg]
    refine hK _ _ ?_; clear hK K
    refine wx_ret ⟨.inr rfl, (.arr 0 0 0 l.length, [some (.arr 0 4 ((valRows l).map ofDs))]), ?_, settle_row l⟩
    simp only [evR, evX, evC, evN, ↓reduceIte, Nat.reduceEqDiff, Nat.reduceAdd, Nat.reduceLeDiff, Nat.reduceLT, Nat.reduceSub, reduceCtorEq, far, c116, renRows_data, refsRows_data]
  | false =>
    have e : insV l v = l.take (posV v l) ++ v :: l.drop (posV v l) := by
      unfold hasP at hh
      unfold insV
      split at hh
      · rename_i x hx
        rw [hx]
        simp [of_decide_eq_false hh]
      · rename_i hx
        rw [hx]
        simp
    rw [e]
    rw [hrow] at hins
    refine wx_cond false rfl (fun h => by cases h) (fun _ => wx_skip ?_)
    have hm2 : lcall E 132 [v.arg] [] = some (.agg [.d (.i .i64 v.kind), .d (.i .i64 v.i), .d (.s v.s), .arr 0 0 0 v.l.length], [some (.arr 0 4 ((valRows v.l).map ofDs))]) := hv2
    refine wx_seq (wx_region fun K hK => ?_)
    simp only [evW, evX, evM, evN, evC, far, ↓reduceIte, Nat.reduceEqDiff, Nat.reduceAdd, Nat.reduceLeDiff, Nat.reduceSub, Nat.reduceLT, reduceCtorEq, not_true_eq_false, not_false_eq_true, Int.reduceEq, Int.reduceLT, Int.reduceLE, Int.reduceNeg, hm2, settle_mine, hins, renRows_data, refsRows_data, range_one]
    refine hK _ _ ?_; clear hK K
    refine wx_ret ⟨.inr rfl, (.d (.l 4 (valRows (l.take (posV v l) ++ v :: l.drop (posV v l)))), []), ?_, by simp [settle, ansIds, V.arrIds]⟩
    simp only [evR, evX, evC, evN, ↓reduceIte, Nat.reduceEqDiff, Nat.reduceAdd, Nat.reduceLeDiff, Nat.reduceLT, Nat.reduceSub, reduceCtorEq, far, c116, renRows_data, refsRows_data]
end Ab

/-
  What is asked ahead of all laws.
-/
namespace Ab
open Go
set_option linter.unusedVariables false
set_option linter.unusedSimpArgs false
set_option maxRecDepth 100000
variable {E : Nat → Option Fn}

def InsOk (E : Nat → Option Fn) : Prop := ∀ (l : List Val) (v : Val), l.length ≤ 1000 → (∀ x ∈ l, Small x) → Small v → chainB ltV l = true →
    ∃ r h, lcall E 116 [.d (.l 4 (valRows l)), v.arg] [] = some (r, h) ∧ settle 0 r h = some (.d (.l 4 (valRows (insV l v))), [])
def FindOk (E : Nat → Option Fn) : Prop := ∀ (l : List Val) (k : List UInt8), l.length ≤ 1000 → chainB ltK l = true → (∀ x ∈ l, 0 < x.l.length) →
    lcall E 119 [.d (.l 4 (valRows l)), .d (.s k)] [] = some (.tup [.d (.i .i64 (posK k l : Nat)), .d (.b (hasK k l))], [])

def bA : Val := .mk 1 3 [] []
def bB : Val := .mk 1 5 [] []
def bZ : Val := .mk 0 0 [] []
def bK : Val := .mk 4 0 [] [.mk 3 0 [107] [], bA]

theorem small_nil (k i : Int) (s : List UInt8) : Small (.mk k i s []) := small_mk (by simp) (by simp)

theorem begun_ok (h106 : E 106 = some (.code c106)) (hins : InsOk E) (hfind : FindOk E) (hsize : ∀ v, Small v → lcall E 112 [v.arg] [] = some (.d (.i .i64 (sizeV v)), [])) (hmay : ∀ v, Small v → lcall E 111 [v.arg] [] = some (.d (.b (decide (sizeV v ≤ 60) && mayV v)), []))
    (hcmp : ∀ (a b : Val), Small a → Small b → lcall E 114 [a.arg, b.arg] [] = some (.d (.i .i64 (cmpV a b)), [])) : lcall E 106 [] [] = some (.d (.b true), []) := by
  have sA : Small bA := small_nil _ _ _
  have sB : Small bB := small_nil _ _ _
  have sZ : Small bZ := small_nil _ _ _
  obtain ⟨r, hh, i1, i2⟩ := hins [bB] bA (by simp) (by simp [sB]) sA rfl
  rw [settle_ids] at i2
  have f1 := hfind [bK] [107] (by simp) rfl (by simp [bK, Val.l])
  have f2 := hfind [bK] [97] (by simp) rfl (by simp [bK, Val.l])
  have m1 := hmay bA sA
  have m2 := hmay bZ sZ
  have z1 := hsize bA sA
  have c1 := hcmp bA bB sA sB
  have e1 : insV [bB] bA = [bA, bB] := rfl
  have e2 : posK [107] [bK] = 0 := rfl
  have e3 : hasK [107] [bK] = true := rfl
  have e4 : posK [97] [bK] = 0 := rfl
  have e5 : hasK [97] [bK] = false := rfl
  have e6 : sizeV bA = 1 := by decide
  have e7 : (decide (sizeV bA ≤ 60) && mayV bA) = true := by decide
  have e8 : (decide (sizeV bZ ≤ 60) && mayV bZ) = false := by decide
  have e9 : cmpV bA bB = -1 := by decide
  rw [e7] at m1
  rw [e8] at m2
  rw [e6] at z1
  rw [e9] at c1
  rw [e1] at i2
  rw [e2, e3] at f1
  rw [e4, e5] at f2
  simp only [bA, bB, bZ, bK, Val.arg, Val.kind, Val.i, Val.s, Val.l, valRows, Val.row, Bool.and_true, Bool.and_false] at i1 i2 f1 f2 m1 m2 z1 c1
  rw [show ((0 : Nat) : Int) = 0 from rfl] at f1 f2
  have n2 : ((2 : Nat) : Int) = 2 := rfl
  refine call_wx h106 ?_
  refine wx_seq (wx_region fun K hK => ?_)
  simp only [evW, evX, evM, evN, evC, far, ↓reduceIte, Nat.reduceEqDiff, Nat.reduceAdd, Nat.reduceLeDiff, Nat.reduceSub, Nat.reduceLT, reduceCtorEq, not_true_eq_false, not_false_eq_true, Int.reduceEq, Int.reduceLT, Int.reduceLE, Int.reduceNeg]
  refine hK _ _ ?_; clear hK K
  refine wx_seq (wx_region fun K hK => ?_)
  simp only [evW, evX, evM, evN, evC, far, ↓reduceIte, Nat.reduceEqDiff, Nat.reduceAdd, Nat.reduceLeDiff, Nat.reduceSub, Nat.reduceLT, reduceCtorEq, not_true_eq_false, not_false_eq_true, Int.reduceEq, Int.reduceLT, Int.reduceLE, Int.reduceNeg]
  refine hK _ _ ?_; clear hK K
  refine wx_seq (wx_region fun K hK => ?_)
  simp only [evW, evX, evM, evN, evC, far, ↓reduceIte, Nat.reduceEqDiff, Nat.reduceAdd, Nat.reduceLeDiff, Nat.reduceSub, Nat.reduceLT, reduceCtorEq, not_true_eq_false, not_false_eq_true, Int.reduceEq, Int.reduceLT, Int.reduceLE, Int.reduceNeg, i1, i2]
  refine hK _ _ ?_; clear hK K
  refine wx_seq (wx_region fun K hK => ?_)
  simp only [evW, evX, evM, evN, evC, far, ↓reduceIte, Nat.reduceEqDiff, Nat.reduceAdd, Nat.reduceLeDiff, Nat.reduceSub, Nat.reduceLT, reduceCtorEq, not_true_eq_false, not_false_eq_true, Int.reduceEq, Int.reduceLT, Int.reduceLE, Int.reduceNeg]
  refine hK _ _ ?_; clear hK K
  refine wx_seq (wx_region fun K hK => ?_)
  simp only [evW, evX, evM, evN, evC, far, ↓reduceIte, Nat.reduceEqDiff, Nat.reduceAdd, Nat.reduceLeDiff, Nat.reduceSub, Nat.reduceLT, reduceCtorEq, not_true_eq_false, not_false_eq_true, Int.reduceEq, Int.reduceLT, Int.reduceLE, Int.reduceNeg, f1]
  refine hK _ _ ?_; clear hK K
  refine wx_seq (wx_region fun K hK => ?_)
  simp only [evW, evX, evM, evN, evC, far, ↓reduceIte, Nat.reduceEqDiff, Nat.reduceAdd, Nat.reduceLeDiff, Nat.reduceSub, Nat.reduceLT, reduceCtorEq, not_true_eq_false, not_false_eq_true, Int.reduceEq, Int.reduceLT, Int.reduceLE, Int.reduceNeg, f2]
  refine hK _ _ ?_; clear hK K
  refine wx_seq (wx_region fun K hK => ?_)
  simp only [evW, evX, evM, evN, evC, far, ↓reduceIte, Nat.reduceEqDiff, Nat.reduceAdd, Nat.reduceLeDiff, Nat.reduceSub, Nat.reduceLT, reduceCtorEq, not_true_eq_false, not_false_eq_true, Int.reduceEq, Int.reduceLT, Int.reduceLE, Int.reduceNeg, m1, m2, z1, c1, n2, List.length_cons, List.length_nil, Int.reduceToNat, List.getElem?_cons_zero, Int.toNat_zero, Int.le_refl]
  refine hK _ _ ?_; clear hK K
  refine wx_ret ⟨.inr rfl, ?_⟩
  simp only [evR, evX, evC, evN, ↓reduceIte, Nat.reduceEqDiff, Nat.reduceAdd, Nat.reduceLeDiff, Nat.reduceLT, Nat.reduceSub, reduceCtorEq, far, c106]
end Ab

/-
  What the functions that the laws of values call come to; the order of values.
-/
namespace Ab
open Go
set_option linter.unusedVariables false
set_option linter.unusedSimpArgs false
set_option maxRecDepth 100000
variable {E : Nat → Option Fn}

structure ValOk (E : Nat → Option Fn) : Prop where
  begun : lcall E 106 [] [] = some (.d (.b true), [])
  made : ∀ l, lcall E 108 [.d (.l 1 (byteRows l))] [] = some (.ptr 0 0, [pbox l 0])
  gen : ∀ (l : List UInt8), l.length ≤ 1000 → ∀ deep : Nat, deep ≤ 100 → GenC E l deep
  refMay : ∀ (v : Val), Small v → Fit v → lcall E 110 [v.arg] [] = some (.d (.b (mayR v)), [])
  may : ∀ v, Small v → lcall E 111 [v.arg] [] = some (.d (.b (decide (sizeV v ≤ 60) && mayV v)), [])
  size : ∀ v, Small v → lcall E 112 [v.arg] [] = some (.d (.i .i64 (sizeV v)), [])
  refSize : ∀ v, Small v → lcall E 113 [v.arg] [] = some (.d (.i .i64 (sizeV v)), [])
  cmp : ∀ (a b : Val), Small a → Small b → lcall E 114 [a.arg, b.arg] [] = some (.d (.i .i64 (cmpV a b)), [])
  refCmp : ∀ (a b : Val), Small a → Small b → lcall E 115 [a.arg, b.arg] [] = some (.d (.i .i64 (cmpV a b)), [])
  ins : InsOk E
  refIns : ∀ (l : List Val) (v : Val), l.length ≤ 1000 → (∀ x ∈ l, Small x) → Small v → lcall E 117 [.d (.l 4 (valRows l)), v.arg] [] = some (.d (.l 4 (valRows (insV l v))), [])
  sameVals : ∀ (a b : List Val), Small (.mk 0 0 [] a) → Small (.mk 0 0 [] b) → lcall E 118 [.d (.l 4 (valRows a)), .d (.l 4 (valRows b))] [] = some (.d (.b (decide (cmpL a b = 0))), [])
  find : FindOk E
  refFind : ∀ (l : List Val) (k : List UInt8), l.length ≤ 1000 → lcall E 120 [.d (.l 4 (valRows l)), .d (.s k)] [] = some (.tup [.d (.i .i64 (posK k l : Nat)), .d (.b (hasK k l))], [])
  same : ∀ (a b : Val), Small a → Small b → lcall E 121 [a.arg, b.arg] [] = some (.d (.b (decide (cmpV a b = 0))), [])

/-- three values: how each two stand. -/
theorem three (a b c : Val) : (cmpV b a = - cmpV a b ∧ cmpV a a = 0) ∧
    ((cmpV a b = -1 ∧ cmpV b c = -1 ∧ cmpV a c = -1) ∨ (cmpV a b = -1 ∧ cmpV b c = 0 ∧ cmpV a c = -1) ∨ (cmpV a b = -1 ∧ cmpV b c = 1 ∧ (cmpV a c = -1 ∨ cmpV a c = 0 ∨ cmpV a c = 1)) ∨
     (cmpV a b = 0 ∧ cmpV b c = -1 ∧ cmpV a c = -1) ∨ (cmpV a b = 0 ∧ cmpV b c = 0 ∧ cmpV a c = 0) ∨ (cmpV a b = 0 ∧ cmpV b c = 1 ∧ cmpV a c = 1) ∨
     (cmpV a b = 1 ∧ (cmpV b c = -1 ∨ cmpV b c = 0 ∨ cmpV b c = 1) ∧ (cmpV a c = -1 ∨ cmpV a c = 0 ∨ cmpV a c = 1))) := by
  refine ⟨⟨cmp_neg a b, cmp_refl a⟩, ?_⟩
  rcases cmp_range a b with h1 | h1 | h1
  · rcases cmp_range b c with h2 | h2 | h2
    · have h3 := cmp_trans a b c (by omega) (by omega)
      have h4 : cmpV a c = -1 := by rcases cmp_range a c with h | h | h <;> omega
      exact .inl ⟨h1, h2, h4⟩
    · have := cmp_zero b c h2
      subst this
      exact .inr (.inl ⟨h1, h2, h1⟩)
    · exact .inr (.inr (.inl ⟨h1, h2, cmp_range a c⟩))
  · have := cmp_zero a b h1
    subst this
    rcases cmp_range a c with h | h | h
    · exact .inr (.inr (.inr (.inl ⟨h1, h, h⟩)))
    · exact .inr (.inr (.inr (.inr (.inl ⟨h1, h, h⟩))))
    · exact .inr (.inr (.inr (.inr (.inr (.inl ⟨h1, h, h⟩)))))
  · exact .inr (.inr (.inr (.inr (.inr (.inr ⟨h1, cmp_range b c, cmp_range a c⟩)))))

set_option maxHeartbeats 4000000 in
theorem order_ok (h102 : E 102 = some (.code c102)) (K : ValOk E) (x y z : List UInt8) : lcall E 102 [.d (.l 1 (byteRows x)), .d (.l 1 (byteRows y)), .d (.l 1 (byteRows z))] [] = some (.d (.b true), []) := by
  have hb := K.begun
  refine call_wx h102 ?_
  refine wx_seq (wx_region fun K hK => ?_)
  simp only [evW, evX, evM, evN, evC, far, ↓reduceIte, Nat.reduceEqDiff, Nat.reduceAdd, Nat.reduceLeDiff, Nat.reduceSub, Nat.reduceLT, reduceCtorEq, not_true_eq_false, not_false_eq_true, Int.reduceEq, Int.reduceLT, Int.reduceLE, Int.reduceNeg]
  refine hK _ _ ?_; clear hK K
  refine wx_seq (wx_seq ?_)
  refine wx_region fun K hK => ?_
  simp only [evW, evX, evM, evN, evC, far, ↓reduceIte, Nat.reduceEqDiff, Nat.reduceAdd, Nat.reduceLeDiff, Nat.reduceSub, Nat.reduceLT, reduceCtorEq, not_true_eq_false, not_false_eq_true, Int.reduceEq, Int.reduceLT, Int.reduceLE, Int.reduceNeg, hb]
  refine hK _ _ ?_; clear hK K
  refine wx_cond false rfl (fun h => by cases h) (fun _ => wx_skip ?_)
  refine wx_seq (wx_seq ?_)
  by_cases hx : (40 : Int) < x.length
  · refine wx_region fun K hK => ?_
    simp only [evW, evX, evM, evN, evC, far, ↓reduceIte, Nat.reduceEqDiff, Nat.reduceAdd, Nat.reduceLeDiff, Nat.reduceSub, Nat.reduceLT, reduceCtorEq, not_true_eq_false, not_false_eq_true, Int.reduceEq, Int.reduceLT, Int.reduceLE, Int.reduceNeg, eq_true hx, byteRows_length]
    refine hK _ _ ?_; clear hK K
    refine wx_cond true rfl (fun _ => ?_) (fun h => by cases h)
    refine wx_seq (wx_region fun K hK => ?_)
    simp only [evW, evX, evM, evN, evC, far, ↓reduceIte, Nat.reduceEqDiff, Nat.reduceAdd, Nat.reduceLeDiff, Nat.reduceSub, Nat.reduceLT, reduceCtorEq, not_true_eq_false, not_false_eq_true, Int.reduceEq, Int.reduceLT, Int.reduceLE, Int.reduceNeg]
    refine hK _ _ ?_; clear hK K
    refine wx_ret ⟨.inr rfl, ?_⟩
    simp only [evR, evX, evC, evN, ↓reduceIte, Nat.reduceEqDiff, Nat.reduceAdd, Nat.reduceLeDiff, Nat.reduceLT, Nat.reduceSub, reduceCtorEq, far, c102]
  by_cases hy : (40 : Int) < y.length
  · refine wx_region fun K hK => ?_
    simp only [evW, evX, evM, evN, evC, far, ↓reduceIte, Nat.reduceEqDiff, Nat.reduceAdd, Nat.reduceLeDiff, Nat.reduceSub, Nat.reduceLT, reduceCtorEq, not_true_eq_false, not_false_eq_true, Int.reduceEq, Int.reduceLT, Int.reduceLE, Int.reduceNeg, hx, eq_true hy, byteRows_length]
    refine hK _ _ ?_; clear hK K
    refine wx_cond true rfl (fun _ => ?_) (fun h => by cases h)
    refine wx_seq (wx_region fun K hK => ?_)
    simp only [evW, evX, evM, evN, evC, far, ↓reduceIte, Nat.reduceEqDiff, Nat.reduceAdd, Nat.reduceLeDiff, Nat.reduceSub, Nat.reduceLT, reduceCtorEq, not_true_eq_false, not_false_eq_true, Int.reduceEq, Int.reduceLT, Int.reduceLE, Int.reduceNeg]
    refine hK _ _ ?_; clear hK K
    refine wx_ret ⟨.inr rfl, ?_⟩
    simp only [evR, evX, evC, evN, ↓reduceIte, Nat.reduceEqDiff, Nat.reduceAdd, Nat.reduceLeDiff, Nat.reduceLT, Nat.reduceSub, reduceCtorEq, far, c102]
  by_cases hz : (40 : Int) < z.length
  · refine wx_region fun K hK => ?_
    simp only [evW, evX, evM, evN, evC, far, ↓reduceIte, Nat.reduceEqDiff, Nat.reduceAdd, Nat.reduceLeDiff, Nat.reduceSub, Nat.reduceLT, reduceCtorEq, not_true_eq_false, not_false_eq_true, Int.reduceEq, Int.reduceLT, Int.reduceLE, Int.reduceNeg, hx, hy, eq_true hz, byteRows_length]
    refine hK _ _ ?_; clear hK K
    refine wx_cond true rfl (fun _ => ?_) (fun h => by cases h)
    refine wx_seq (wx_region fun K hK => ?_)
    simp only [evW, evX, evM, evN, evC, far, ↓reduceIte, Nat.reduceEqDiff, Nat.reduceAdd, Nat.reduceLeDiff, Nat.reduceSub, Nat.reduceLT, reduceCtorEq, not_true_eq_false, not_false_eq_true, Int.reduceEq, Int.reduceLT, Int.reduceLE, Int.reduceNeg]
    refine hK _ _ ?_; clear hK K
    refine wx_ret ⟨.inr rfl, ?_⟩
    simp only [evR, evX, evC, evN, ↓reduceIte, Nat.reduceEqDiff, Nat.reduceAdd, Nat.reduceLeDiff, Nat.reduceLT, Nat.reduceSub, reduceCtorEq, far, c102]
  refine wx_region fun K hK => ?_
  simp only [evW, evX, evM, evN, evC, far, ↓reduceIte, Nat.reduceEqDiff, Nat.reduceAdd, Nat.reduceLeDiff, Nat.reduceSub, Nat.reduceLT, reduceCtorEq, not_true_eq_false, not_false_eq_true, Int.reduceEq, Int.reduceLT, Int.reduceLE, Int.reduceNeg, hx, hy, hz, byteRows_length]
  refine hK _ _ ?_; clear hK K
  refine wx_cond false rfl (fun h => by cases h) (fun _ => wx_skip ?_)
  obtain ⟨a, n1, c1, _, g1⟩ := K.gen x (by omega) 3 (by omega) 0 (by omega)
  obtain ⟨b, n2, c2, _, g2⟩ := K.gen y (by omega) 3 (by omega) 0 (by omega)
  obtain ⟨c, n3, c3, _, g3⟩ := K.gen z (by omega) 3 (by omega) 0 (by omega)
  have m1 := K.made x
  have m2 := K.made y
  have m3 := K.made z
  have d3 : ((3 : Nat) : Int) = 3 := rfl
  rw [d3] at c1 c2 c3
  refine wx_seq (wx_region fun K hK => ?_)
  simp only [evW, evX, evM, evN, evC, far, ↓reduceIte, Nat.reduceEqDiff, Nat.reduceAdd, Nat.reduceLeDiff, Nat.reduceSub, Nat.reduceLT, reduceCtorEq, not_true_eq_false, not_false_eq_true, Int.reduceEq, Int.reduceLT, Int.reduceLE, Int.reduceNeg, m1, m2, m3, c1, c2, c3, range_one]
  refine hK _ _ ?_; clear hK K
  have s1 := g1.small
  have s2 := g2.small
  have s3 := g3.small
  have p1 := K.cmp a b s1 s2
  have p2 := K.cmp b c s2 s3
  have p3 := K.cmp a c s1 s3
  have p4 := K.cmp b a s2 s1
  have p5 := K.cmp a a s1 s1
  have p6 := K.same a b s1 s2
  obtain ⟨⟨e1, e2⟩, e3⟩ := three a b c
  rw [e1] at p4
  rw [e2] at p5
  refine wx_seq (wx_regionT fun K hK => ?_)
  simp only [evW, evX, evM, evN, evC, far, ↓reduceIte, Nat.reduceEqDiff, Nat.reduceAdd, Nat.reduceLeDiff, Nat.reduceSub, Nat.reduceLT, reduceCtorEq, not_true_eq_false, not_false_eq_true, Int.reduceEq, Int.reduceLT, Int.reduceLE, Int.reduceNeg, p1, p2, p3]
  refine hK _ _ (by rfl) ?_; clear hK K
  refine wx_seq (wx_seq ?_)
  have w0 : IntKind.i64.wrap (-0) = 0 := by decide
  have w3 : IntKind.i64.wrap 0 = 0 := by decide
  have w1 : IntKind.i64.wrap (-1) = -1 := by decide
  have w2 : IntKind.i64.wrap 1 = 1 := by decide
  have n1 : (-(-1 : Int)) = 1 := rfl
  have n0 : (-(0 : Int)) = 0 := rfl
  rcases e3 with ⟨h1, h2, h3⟩ | ⟨h1, h2, h3⟩ | ⟨h1, h2, h3 | h3 | h3⟩ | ⟨h1, h2, h3⟩ | ⟨h1, h2, h3⟩ | ⟨h1, h2, h3⟩ | ⟨h1, h2 | h2 | h2, h3 | h3 | h3⟩
  all_goals
    simp only [h1, h2, h3, n1, n0] at p1 p2 p3 p4 p5 p6 ⊢
    refine wx_region fun K hK => ?_
    simp only [evW, evX, evM, evN, evC, far, ↓reduceIte, Nat.reduceEqDiff, Nat.reduceAdd, Nat.reduceLeDiff, Nat.reduceSub, Nat.reduceLT, reduceCtorEq, not_true_eq_false, not_false_eq_true, Int.reduceEq, Int.reduceLT, Int.reduceLE, Int.reduceNeg, p4, p5, n1, n0, w0, w1, w2, w3]
    refine hK _ _ ?_; clear hK K
    refine wx_cond false rfl (fun h => by cases h) (fun _ => wx_skip ?_)
    refine wx_seq (wx_region fun K hK => ?_)
    simp only [evW, evX, evM, evN, evC, far, ↓reduceIte, Nat.reduceEqDiff, Nat.reduceAdd, Nat.reduceLeDiff, Nat.reduceSub, Nat.reduceLT, reduceCtorEq, not_true_eq_false, not_false_eq_true, Int.reduceEq, Int.reduceLT, Int.reduceLE, Int.reduceNeg, p6, n1, n0, decide_true, decide_false, Bool.true_eq_false, Bool.false_eq_true]
    refine hK _ _ ?_; clear hK K
    refine wx_ret ⟨.inr rfl, ?_⟩
    simp only [evR, evX, evC, evN, ↓reduceIte, Nat.reduceEqDiff, Nat.reduceAdd, Nat.reduceLeDiff, Nat.reduceLT, Nat.reduceSub, reduceCtorEq, far, c102]
end Ab

/-
  What the functions are, together.
-/
namespace Ab
open Go
set_option linter.unusedVariables false
variable {E : Nat → Option Fn}

/-- the table. -/
structure ValE (E : Nat → Option Fn) : Prop where
  h106 : E 106 = some (.code c106)
  h107 : E 107 = some (.code c107)
  h108 : E 108 = some (.code c108)
  h109 : E 109 = some (.code c109)
  h110 : E 110 = some (.code c110)
  h111 : E 111 = some (.code c111)
  h112 : E 112 = some (.code c112)
  h113 : E 113 = some (.code c113)
  h114 : E 114 = some (.code c114)
  h115 : E 115 = some (.code c115)
  h116 : E 116 = some (.code c116)
  h117 : E 117 = some (.code c117)
  h118 : E 118 = some (.code c118)
  h119 : E 119 = some (.code c119)
  h120 : E 120 = some (.code c120)
  h121 : E 121 = some (.code c121)
  h123 : E 123 = some (.code c123)
  h124 : E 124 = some (.code c124)
  h125 : E 125 = some (.code c125)
  h126 : E 126 = some (.code c126)
  h127 : E 127 = some (.code c127)
  h128 : E 128 = some (.code c128)
  h129 : E 129 = some (.code c129)
  h130 : E 130 = some (.code c130)
  h131 : E 131 = some (.code c131)
  h132 : E 132 = some (.code c132)
  h133 : E 133 = some (.code c133)
  h134 : E 134 = some (.prim insImpl)
  h135 : E 135 = some (.code c135)
  h136 : E 136 = some (.code c136)
  h137 : E 137 = some (.code c137)
  h138 : E 138 = some (.code c138)
  h139 : E 139 = some (.code c139)
  h140 : E 140 = some (.code c140)
  h141 : E 141 = some (.code c141)
  h142 : E 142 = some (.code c142)
  h143 : E 143 = some (.code c143)
  h144 : E 144 = some (.code c144)
  h145 : E 145 = some (.code c145)
  h146 : E 146 = some (.prim (cloneImpl 4 56))
  h147 : E 147 = some (.code c147)
  h150 : E 150 = some (.code c150)
  h151 : E 151 = some (.code c151)
  h152 : E 152 = some (.code c152)
  h153 : E 153 = some (.code c153)
  h154 : E 154 = some (.code c154)
  h155 : E 155 = some (.code c155)

theorem valOk (H : ValE E) : ValOk E := by
  have refCmp := refCmp_ok H.h115 H.h131
  have refIns : ∀ (l : List Val) (v : Val), l.length ≤ 1000 → (∀ x ∈ l, Small x) → Small v → lcall E 117 [.d (.l 4 (valRows l)), v.arg] [] = some (.d (.l 4 (valRows (insV l v))), []) :=
    fun l v hl hs hv => refIns_ok H.h117 (fun x hx => refCmp x v (hs x hx) hv) hl
  have key138 := fun v => key_ok H.h138 rfl v
  have key137 := fun v => key_ok H.h137 rfl v
  have refFind := fun (l : List Val) (k : List UInt8) (hl : l.length ≤ 1000) => refFind_ok H.h120 key138 hl k
  have c127 := cmp127 H.h143 H.h127
  have c128 := cmp128 H.h144 H.h128
  have c129 := cmp129 H.h145 H.h129
  have cmp := cmp_ok H.h114 H.h126 H.h130 c127 c128 c129
  have contains : ∀ (f : Nat) (l : List Val) (p : Val → Bool), l.length ≤ 1000 → (∀ x ∈ l, lcall E f [x.arg] [] = some (.d (.b (p x)), [])) → lcall E 141 [.d (.l 4 (valRows l)), .d (.f f [] [])] [] = some (.d (.b (l.any p)), []) :=
    fun f l p hl ih => contains_ok H.h141 H.h155 hl ih
  have rises : ∀ (f : Nat) (l : List Val) (c : Val → Val → Int), l.length ≤ 1000 → (∀ x ∈ l, ∀ y ∈ l, lcall E f [x.arg, y.arg] [] = some (.d (.i .i64 (c x y)), [])) → lcall E 151 [.d (.l 4 (valRows l)), .d (.f f [] [])] [] = some (.d (.b (chainB (fun a b => decide (c a b < 0)) l)), []) :=
    fun f l c hl ih => rises_ok H.h151 hl ih
  have notpair := notpair_ok H.h152 H.h153
  have cmpKey := cmpKey_ok H.h154 key137 c129
  have row := row_ok H.h140 contains rises cmp notpair cmpKey
  have size := size_ok H.h112
  have refSize := refSize_ok H.h113
  have mayIn := mayIn_ok H.h125 H.h142 contains (number_ok H.h139) row
  have may := may_ok H.h111 size mayIn
  have refMay := refMay_ok H.h110 refSize refCmp
  have mine := fun v hv => mine_ok (v := v) H.h132 H.h146 hv
  have ins : InsOk E := fun l v hl hs hv hch => ins116_ok H.h116 H.h133 H.h147 H.h134 mine cmp hl hs hv hch
  have find1 := find1_ok H.h136 key137 c129
  have find : FindOk E := fun l k hl hch hne => find_ok H.h119 H.h135 H.h150 find1 hl hch hne k
  have same := same_ok H.h121 refCmp
  exact {
    begun := begun_ok H.h106 ins find size may cmp
    made := made_ok H.h108
    gen := fun l hl deep hd => gen_ok H.h109 H.h124 (fun ws v h1 h2 h3 => refIns ws v h1 h2 h3) (fun ws k h => refFind ws k h) (fun n hn m hm => num_ok H.h123 l n hl hn m hm) deep hd
    refMay := refMay
    may := may
    size := size
    refSize := refSize
    cmp := cmp
    refCmp := refCmp
    ins := ins
    refIns := refIns
    sameVals := sameVals_ok H.h118 same
    find := find
    refFind := fun l k hl => refFind l k hl
    same := same }
end Ab

/-
  What the laws of values are handed.
-/
namespace Ab
open Go
set_option linter.unusedVariables false

theorem wf_u8 {n : Int} (h : (Lit.int .u8 n).wf = true) : ∃ c : UInt8, n = c.toNat := by
  simp only [Lit.wf, Bool.and_eq_true, decide_eq_true_eq, IntKind.min, IntKind.max, IntKind.signed, IntKind.bits] at h
  refine ⟨UInt8.ofNat n.toNat, ?_⟩
  rw [UInt8.toNat_ofNat']
  simp at h
  omega

section
variable {P : Program}

theorem tyD_bytes {t e : TypeId} (hu : P.underlying t = some (.slice e)) (he : P.underlying e = some (.int .u8)) (hc : P.cellsOf e = 1) : ∀ {f : Nat} {ds : List D}, tyD P f t ds → ∃ l, ds = [.l 1 (byteRows l)]
  | 0, ds, h => h.elim
  | f + 1, ds, h => by
    simp only [tyD, hu, hc] at h
    obtain ⟨xs, rfl, _, h3⟩ := h
    have : ∀ (xs : List (List D)), (∀ r ∈ xs, r.length = 1 ∧ tyD P f e r) → ∃ l, xs = byteRows l := by
      intro xs
      induction xs with
      | nil => intro _; exact ⟨[], rfl⟩
      | cons r rs ih =>
        intro h
        obtain ⟨l, rfl⟩ := ih (fun r hr => h r (by simp [hr]))
        obtain ⟨_, h1⟩ := h r (by simp)
        cases f with
        | zero => exact h1.elim
        | succ f =>
          simp only [tyD, he] at h1
          obtain ⟨n, rfl, hw⟩ := h1
          obtain ⟨c, rfl⟩ := wf_u8 hw
          exact ⟨c :: l, rfl⟩
    obtain ⟨l, rfl⟩ := this xs h3
    exact ⟨l, rfl⟩

/-- lots of bytes. -/
def lotRows (l : List (List UInt8)) : List (List D) := l.map fun x => [.l 1 (byteRows x)]

theorem lotRows_length (l : List (List UInt8)) : (lotRows l).length = l.length := by simp [lotRows]
theorem lotRows_get (l : List (List UInt8)) (i : Nat) : (lotRows l)[i]? = (l[i]?).map fun x => [.l 1 (byteRows x)] := by simp [lotRows]

theorem tyD_lots {s t e : TypeId} (hs : P.underlying s = some (.slice t)) (ht : P.cellsOf t = 1) (hu : P.underlying t = some (.slice e)) (he : P.underlying e = some (.int .u8)) (hc : P.cellsOf e = 1) : ∀ {f : Nat} {ds : List D}, tyD P f s ds → ∃ l, ds = [.l 1 (lotRows l)]
  | 0, ds, h => h.elim
  | f + 1, ds, h => by
    simp only [tyD, hs, ht] at h
    obtain ⟨xs, rfl, _, h3⟩ := h
    have : ∀ (xs : List (List D)), (∀ r ∈ xs, r.length = 1 ∧ tyD P f t r) → ∃ l, xs = lotRows l := by
      intro xs
      induction xs with
      | nil => intro _; exact ⟨[], rfl⟩
      | cons r rs ih =>
        intro h
        obtain ⟨l, rfl⟩ := ih (fun r hr => h r (by simp [hr]))
        obtain ⟨_, h1⟩ := h r (by simp)
        obtain ⟨x, rfl⟩ := tyD_bytes hu he hc h1
        exact ⟨x :: l, rfl⟩
    obtain ⟨l, rfl⟩ := this xs h3
    exact ⟨l, rfl⟩

theorem tyD_str {t : TypeId} (hu : P.underlying t = some .string) : ∀ {f : Nat} {ds : List D}, tyD P f t ds → ∃ x, ds = [.s x]
  | 0, ds, h => h.elim
  | f + 1, ds, h => by
    simp only [tyD, hu] at h
    obtain ⟨x, rfl, _⟩ := h
    exact ⟨x, rfl⟩

theorem tyD_u8 {t : TypeId} (hu : P.underlying t = some (.int .u8)) : ∀ {f : Nat} {ds : List D}, tyD P f t ds → ∃ c : UInt8, ds = [.i .u8 c.toNat]
  | 0, ds, h => h.elim
  | f + 1, ds, h => by
    simp only [tyD, hu] at h
    obtain ⟨n, rfl, hw⟩ := h
    obtain ⟨c, rfl⟩ := wf_u8 hw
    exact ⟨c, rfl⟩

theorem tyD_i64 {t : TypeId} (hu : P.underlying t = some (.int .i64)) : ∀ {f : Nat} {ds : List D}, tyD P f t ds → ∃ n : Int, ds = [.i .i64 n]
  | 0, ds, h => h.elim
  | f + 1, ds, h => by
    simp only [tyD, hu] at h
    obtain ⟨n, rfl, _⟩ := h
    exact ⟨n, rfl⟩

/-- a value. -/
theorem tyD_val {v k i s l : TypeId} {fs : Array Field} (hv : P.underlying v = some (.struct fs)) (hf : fs.toList.map (fun x => (x.offset, x.type)) = [(0, k), (1, i), (2, s), (3, l)]) (hk : P.underlying k = some (.int .i64)) (hi : P.underlying i = some (.int .i64)) (hs : P.underlying s = some .string) (hl : P.underlying l = some (.slice v))
    (ck : P.cellsOf k = 1) (ci : P.cellsOf i = 1) (cs : P.cellsOf s = 1) (cl : P.cellsOf l = 1) (cv : P.cellsOf v = 4) : ∀ (f : Nat) {ds : List D}, tyD P f v ds → ∃ x : Val, ds = x.row := by
  intro f
  induction f using Nat.strongRecOn with
  | _ f ih =>
    intro ds h
    cases f with
    | zero => exact h.elim
    | succ f =>
      simp only [tyD, hv, cv] at h
      obtain ⟨hlen, h⟩ := h
      obtain ⟨a, b, c, d, rfl⟩ : ∃ a b c d, ds = [a, b, c, d] := by
        match ds, hlen with
        | [a, b, c, d], _ => exact ⟨a, b, c, d, rfl⟩
      have hfld : ∀ (o : Nat) (t : TypeId), (o, t) ∈ fs.toList.map (fun x => (x.offset, x.type)) → tyD P f t ((([a, b, c, d] : List D).drop o).take (P.cellsOf t)) := by
        intro o t hm
        obtain ⟨x, hx, he⟩ := List.mem_map.1 hm
        cases he
        exact h x hx
      have h1 := hfld 0 k (by rw [hf]; simp)
      have h2 := hfld 1 i (by rw [hf]; simp)
      have h3 := hfld 2 s (by rw [hf]; simp)
      have h4 := hfld 3 l (by rw [hf]; simp)
      rw [ck] at h1
      rw [ci] at h2
      rw [cs] at h3
      rw [cl] at h4
      simp only [List.drop_zero, List.drop_succ_cons, List.take_succ_cons, List.take_zero] at h1 h2 h3 h4
      obtain ⟨n1, e1⟩ := tyD_i64 hk h1
      obtain ⟨n2, e2⟩ := tyD_i64 hi h2
      obtain ⟨x3, e3⟩ := tyD_str hs h3
      cases e1; cases e2; cases e3
      cases f with
      | zero => exact h4.elim
      | succ f =>
        simp only [tyD, hl, cv] at h4
        obtain ⟨xs, e4, _, h5⟩ := h4
        cases e4
        have : ∀ (xs : List (List D)), (∀ r ∈ xs, r.length = 4 ∧ tyD P f v r) → ∃ l, xs = valRows l := by
          intro xs
          induction xs with
          | nil => intro _; exact ⟨[], rfl⟩
          | cons r rs ihr =>
            intro h
            obtain ⟨l, rfl⟩ := ihr (fun r hr => h r (by simp [hr]))
            obtain ⟨_, h1⟩ := h r (by simp)
            obtain ⟨x, rfl⟩ := ih f (by omega) h1
            exact ⟨x :: l, rfl⟩
        obtain ⟨l, rfl⟩ := this xs h5
        exact ⟨.mk n1 n2 x3 l, rfl⟩

theorem trod_len {H : Type} {enc : TypeId × Value → H} {W : World} {sp : Nat → Bool} : ∀ {ts : List TypeId} {vs : List Value} {ds : List (DataW H)} {ps : List MemPlace}, DataW.TrodAll enc P W 0 sp true ts vs ds ps → ds.length = ts.length
  | [], [], [], ps, _ => rfl
  | t :: ts, v :: vs, d :: ds, ps, ⟨p, q, h1, h2, e⟩ => by simp [trod_len h2]
  | [], [], _ :: _, _, h => h.elim
  | [], _ :: _, _, _, h => h.elim
  | _ :: _, [], _, _, h => h.elim
  | _ :: _, _ :: _, [], _, h => h.elim
end
end Ab

/-
  What holds values is one greater than they are together.
-/
namespace Ab
open Go
set_option linter.unusedVariables false
set_option linter.unusedSimpArgs false
set_option maxRecDepth 100000
variable {E : Nat → Option Fn}

theorem szL_append : ∀ (a b : List Val), szL (a ++ b) = szL a + szL b
  | [], b => by simp [szL]
  | x :: a, b => by simp only [List.cons_append, szL, szL_append a b]; omega

theorem bnd2 : bnd 2 ≤ 1000 := by decide

def lsLoop : CCode := match c105.body with
  | .seq _ (.seq _ (.seq _ (.seq _ (.seq _ (.seq (.seq _ (.block _ (.loop _ c))) _))))) => c
  | _ => .skip

set_option maxHeartbeats 1000000 in
theorem ls_loop (K : ValOk E) {l : List (List UInt8)} (hl : l.length ≤ 6) {Q : Ex → St → Prop} (hx : ∀ tm hp, Q (.exit 0) ⟨tm, hp⟩) (hr : ∀ tm hp, look tm 2 = .d (.b true) → Q .ret ⟨tm, hp⟩) :
    ∀ (m i : Nat) (ws : List Val), i + m = l.length → ws.length = i → (∀ x ∈ ws, GenOk (bnd 2) x) →
      LX E lsLoop ⟨[0, 3, 4, 5], [], [(3, 3)], [], [], true⟩ 2 ⟨[(0, .d (.l 1 (lotRows l))), (3, .ptr 0 0), (4, .d (.i .i64 ((1 + szL ws : Nat) : Int))), (5, .d (.i .i64 i))], [some (.box [.d (.i .i64 4), .d (.i .i64 0), .d (.s []), .own 1 0 4 (valRows ws)]), some (.tok 0 4)]⟩ Q := by
  intro m
  induction m with
  | zero =>
    intro i ws hi hw hok
    have hn : ¬ ((i : Int) < l.length) := by omega
    refine lx_step (wx_seq (wx_seq ?_))
    refine wx_region fun K hK => ?_
    simp only [evW, evX, evM, evN, evC, far, ↓reduceIte, Nat.reduceEqDiff, Nat.reduceAdd, Nat.reduceLeDiff, Nat.reduceSub, Nat.reduceLT, reduceCtorEq, not_true_eq_false, not_false_eq_true, Int.reduceEq, Int.reduceLT, Int.reduceLE, Int.reduceNeg, hn, lotRows_length]
    refine hK _ _ ?_; clear hK K
    refine wx_cond false rfl (fun h => by cases h) (fun _ => wx_exit ?_)
    exact hx _ _
  | succ m ih =>
    intro i ws hi hw hok
    have hy : (i : Int) < l.length := by omega
    have la : i < l.length := by omega
    have h0 : (0 : Int) ≤ i := by omega
    have ga : (lotRows l)[i]? = some [.l 1 (byteRows l[i])] := by rw [lotRows_get, List.getElem?_eq_getElem la]; rfl
    have w : IntKind.i64.wrap ((i : Int) + 1) = ((i + 1 : Nat) : Int) := by rw [i64_in (by omega) (by omega)]; omega
    generalize l[i] = b at *
    refine lx_step (wx_seq (wx_seq ?_))
    refine wx_region fun K hK => ?_
    simp only [evW, evX, evM, evN, evC, far, ↓reduceIte, Nat.reduceEqDiff, Nat.reduceAdd, Nat.reduceLeDiff, Nat.reduceSub, Nat.reduceLT, reduceCtorEq, not_true_eq_false, not_false_eq_true, Int.reduceEq, Int.reduceLT, Int.reduceLE, Int.reduceNeg, hy, lotRows_length]
    refine hK _ _ ?_; clear hK K
    refine wx_cond true rfl (fun _ => wx_skip ?_) (fun h => by cases h)
    refine wx_seq (wx_block ?_)
    refine wx_seq (wx_seq ?_)
    by_cases hb : (20 : Int) < b.length
    · refine wx_region fun K hK => ?_
      simp only [evW, evX, evM, evN, evC, far, ↓reduceIte, Nat.reduceEqDiff, Nat.reduceAdd, Nat.reduceLeDiff, Nat.reduceSub, Nat.reduceLT, reduceCtorEq, not_true_eq_false, not_false_eq_true, Int.reduceEq, Int.reduceLT, Int.reduceLE, Int.reduceNeg, h0, Int.toNat_natCast, ga, byteRows_length, eq_true hb]
      refine hK _ _ ?_; clear hK K
      refine wx_cond true rfl (fun _ => ?_) (fun h => by cases h)
      refine wx_seq (wx_region fun K hK => ?_)
      simp only [evW, evX, evM, evN, evC, far, ↓reduceIte, Nat.reduceEqDiff, Nat.reduceAdd, Nat.reduceLeDiff, Nat.reduceSub, Nat.reduceLT, reduceCtorEq, not_true_eq_false, not_false_eq_true, Int.reduceEq, Int.reduceLT, Int.reduceLE, Int.reduceNeg]
      refine hK _ _ ?_; clear hK K
      refine wx_ret (hr _ _ ?_)
      simp only [evX, evN, ↓reduceIte, Nat.reduceEqDiff]
    refine wx_region fun K hK => ?_
    simp only [evW, evX, evM, evN, evC, far, ↓reduceIte, Nat.reduceEqDiff, Nat.reduceAdd, Nat.reduceLeDiff, Nat.reduceSub, Nat.reduceLT, reduceCtorEq, not_true_eq_false, not_false_eq_true, Int.reduceEq, Int.reduceLT, Int.reduceLE, Int.reduceNeg, h0, Int.toNat_natCast, ga, byteRows_length, hb]
    refine hK _ _ ?_; clear hK K
    refine wx_cond false rfl (fun h => by cases h) (fun _ => wx_skip ?_)
    have m1 := K.made b
    obtain ⟨x, n', c1, _, g1⟩ := K.gen b (by omega) 2 (by omega) 0 (by omega)
    have d2 : ((2 : Nat) : Int) = 2 := rfl
    rw [d2] at c1
    have hb2 := bnd2
    have hxs : szN x ≤ 1000 := Nat.le_trans g1.size hb2
    have hws : szL ws ≤ 6 * 1000 := Nat.le_trans (szL_of hok) (Nat.mul_le_mul (by omega) hb2)
    have hok' : ∀ y ∈ ws ++ [x], GenOk (bnd 2) y := fun y hy => by
      rcases List.mem_append.1 hy with h | h
      · exact hok y h
      · rw [List.mem_singleton.1 h]; exact g1
    have hsz : szL (ws ++ [x]) = szL ws + szN x := by rw [szL_append]; simp [szL]
    have hsv : Small (.mk 4 0 [] (ws ++ [x])) := small_mk (by simp; omega) (fun y hy => (hok' y hy).small)
    have z1 := K.size x g1.small
    rw [sizeV_fit x (by omega)] at z1
    have hN : szN (.mk 4 0 [] (ws ++ [x])) = 1 + szL (ws ++ [x]) := by rw [szN_eq]; simp [Val.s, Val.l]
    have z2 := K.size _ hsv
    rw [sizeV_fit _ (by rw [hN, hsz]; omega), hN] at z2
    have hmay : mayV (.mk 4 0 [] (ws ++ [x])) = true := by simp [mayV, numOk, rowOk, mayL_of hok']
    have z3 := K.may _ hsv
    rw [sizeV_fit _ (by rw [hN, hsz]; omega), hN, hmay, Bool.and_true] at z3
    simp only [Val.arg, Val.kind, Val.i, Val.s, Val.l] at z2 z3
    have w2 : IntKind.i64.wrap (((1 + szL ws : Nat) : Int) + (szN x : Int)) = ((1 + szL (ws ++ [x]) : Nat) : Int) := by rw [i64_in (by omega) (by omega), hsz]; omega
    have r2 : roomy (ws.length + 1) 56 = true := roomy_in (by omega)
    have hrow : valRows ws ++ [[.i .i64 x.kind, .i .i64 x.i, .s x.s, .l 4 (valRows x.l)]] = valRows (ws ++ [x]) := by rw [valRows_append]; simp [valRows, row_eq]
    refine wx_seq (wx_region fun K hK => ?_)
    simp only [evW, evX, evM, evN, evC, far, ↓reduceIte, Nat.reduceEqDiff, Nat.reduceAdd, Nat.reduceLeDiff, Nat.reduceSub, Nat.reduceLT, reduceCtorEq, not_true_eq_false, not_false_eq_true, Int.reduceEq, Int.reduceLT, Int.reduceLE, Int.reduceNeg, h0, Int.toNat_natCast, ga, m1, c1, range_one]
    refine hK _ _ ?_; clear hK K
    refine wx_seq (wx_region fun K hK => ?_)
    simp only [evW, evX, evM, evN, evC, far, ↓reduceIte, Nat.reduceEqDiff, Nat.reduceAdd, Nat.reduceLeDiff, Nat.reduceSub, Nat.reduceLT, reduceCtorEq, not_true_eq_false, not_false_eq_true, Int.reduceEq, Int.reduceLT, Int.reduceLE, Int.reduceNeg, valRows_length, r2, hrow]
    refine hK _ _ ?_; clear hK K
    refine wx_seq (wx_region fun K hK => ?_)
    simp only [evW, evX, evM, evN, evC, far, ↓reduceIte, Nat.reduceEqDiff, Nat.reduceAdd, Nat.reduceLeDiff, Nat.reduceSub, Nat.reduceLT, reduceCtorEq, not_true_eq_false, not_false_eq_true, Int.reduceEq, Int.reduceLT, Int.reduceLE, Int.reduceNeg, z1, w2]
    refine hK _ _ ?_; clear hK K
    refine wx_seq ?_
    refine wx_region fun K hK => ?_
    simp only [evW, evX, evM, evN, evC, far, ↓reduceIte, Nat.reduceEqDiff, Nat.reduceAdd, Nat.reduceLeDiff, Nat.reduceSub, Nat.reduceLT, reduceCtorEq, not_true_eq_false, not_false_eq_true, Int.reduceEq, Int.reduceLT, Int.reduceLE, Int.reduceNeg, z2, z3]
    refine hK _ _ ?_; clear hK K
    refine wx_cond false rfl (fun h => by cases h) (fun _ => wx_skip ?_)
    refine wx_region fun K hK => ?_
    simp only [evW, evX, evM, evN, evC, far, ↓reduceIte, Nat.reduceEqDiff, Nat.reduceAdd, Nat.reduceLeDiff, Nat.reduceSub, Nat.reduceLT, reduceCtorEq, not_true_eq_false, not_false_eq_true, Int.reduceEq, Int.reduceLT, Int.reduceLE, Int.reduceNeg, w]
    refine hK _ _ ?_; clear hK K
    refine ⟨_, ?_, ih (i + 1) (ws ++ [x]) (by omega) (by simp; omega) hok'⟩
    simp only [evH, evX, evN, ↓reduceIte, Nat.reduceEqDiff, Nat.reduceAdd, Nat.reduceLeDiff, Nat.reduceLT, Nat.reduceSub, reduceCtorEq]

theorem lsize_ok (h105 : E 105 = some (.code c105)) (K : ValOk E) (l : List (List UInt8)) : ∃ h', lcall E 105 [.d (.l 1 (lotRows l))] [] = some (.d (.b true), h') := by
  have hb := K.begun
  refine (call_wxP h105 (R := fun x => x.1 = .d (.b true)) ?_).elim fun x hx => ⟨x.2, by rw [hx.1, ← hx.2]⟩
  refine wx_seq (wx_region fun K hK => ?_)
  simp only [evW, evX, evM, evN, evC, far, ↓reduceIte, Nat.reduceEqDiff, Nat.reduceAdd, Nat.reduceLeDiff, Nat.reduceSub, Nat.reduceLT, reduceCtorEq, not_true_eq_false, not_false_eq_true, Int.reduceEq, Int.reduceLT, Int.reduceLE, Int.reduceNeg]
  refine hK _ _ ?_; clear hK K
  refine wx_seq (wx_seq ?_)
  refine wx_region fun K hK => ?_
  simp only [evW, evX, evM, evN, evC, far, ↓reduceIte, Nat.reduceEqDiff, Nat.reduceAdd, Nat.reduceLeDiff, Nat.reduceSub, Nat.reduceLT, reduceCtorEq, not_true_eq_false, not_false_eq_true, Int.reduceEq, Int.reduceLT, Int.reduceLE, Int.reduceNeg, hb]
  refine hK _ _ ?_; clear hK K
  refine wx_cond false rfl (fun h => by cases h) (fun _ => wx_skip ?_)
  refine wx_seq (wx_seq ?_)
  by_cases hl : (6 : Int) < l.length
  · refine wx_region fun K hK => ?_
    simp only [evW, evX, evM, evN, evC, far, ↓reduceIte, Nat.reduceEqDiff, Nat.reduceAdd, Nat.reduceLeDiff, Nat.reduceSub, Nat.reduceLT, reduceCtorEq, not_true_eq_false, not_false_eq_true, Int.reduceEq, Int.reduceLT, Int.reduceLE, Int.reduceNeg, eq_true hl, lotRows_length]
    refine hK _ _ ?_; clear hK K
    refine wx_cond true rfl (fun _ => ?_) (fun h => by cases h)
    refine wx_seq (wx_region fun K hK => ?_)
    simp only [evW, evX, evM, evN, evC, far, ↓reduceIte, Nat.reduceEqDiff, Nat.reduceAdd, Nat.reduceLeDiff, Nat.reduceSub, Nat.reduceLT, reduceCtorEq, not_true_eq_false, not_false_eq_true, Int.reduceEq, Int.reduceLT, Int.reduceLE, Int.reduceNeg]
    refine hK _ _ ?_; clear hK K
    refine wx_ret ⟨.inr rfl, (.d (.b true), []), ?_, rfl⟩
    simp only [evR, evX, evC, evN, ↓reduceIte, Nat.reduceEqDiff, Nat.reduceAdd, Nat.reduceLeDiff, Nat.reduceLT, Nat.reduceSub, reduceCtorEq, far, c105]
  refine wx_region fun K hK => ?_
  simp only [evW, evX, evM, evN, evC, far, ↓reduceIte, Nat.reduceEqDiff, Nat.reduceAdd, Nat.reduceLeDiff, Nat.reduceSub, Nat.reduceLT, reduceCtorEq, not_true_eq_false, not_false_eq_true, Int.reduceEq, Int.reduceLT, Int.reduceLE, Int.reduceNeg, hl, lotRows_length]
  refine hK _ _ ?_; clear hK K
  refine wx_cond false rfl (fun h => by cases h) (fun _ => wx_skip ?_)
  refine wx_seq (wx_region fun K hK => ?_)
  simp only [evW, evX, evM, evN, evC, far, ↓reduceIte, Nat.reduceEqDiff, Nat.reduceAdd, Nat.reduceLeDiff, Nat.reduceSub, Nat.reduceLT, reduceCtorEq, not_true_eq_false, not_false_eq_true, Int.reduceEq, Int.reduceLT, Int.reduceLE, Int.reduceNeg]
  refine hK _ _ ?_; clear hK K
  refine wx_seq (wx_region fun K hK => ?_)
  simp only [evW, evX, evM, evN, evC, far, ↓reduceIte, Nat.reduceEqDiff, Nat.reduceAdd, Nat.reduceLeDiff, Nat.reduceSub, Nat.reduceLT, reduceCtorEq, not_true_eq_false, not_false_eq_true, Int.reduceEq, Int.reduceLT, Int.reduceLE, Int.reduceNeg]
  refine hK _ _ ?_; clear hK K
  refine wx_seq (wx_seq ?_)
  refine wx_region fun K hK => ?_
  simp only [evW, evX, evM, evN, evC, far, ↓reduceIte, Nat.reduceEqDiff, Nat.reduceAdd, Nat.reduceLeDiff, Nat.reduceSub, Nat.reduceLT, reduceCtorEq, not_true_eq_false, not_false_eq_true, Int.reduceEq, Int.reduceLT, Int.reduceLE, Int.reduceNeg]
  refine hK _ _ ?_; clear hK K
  refine wx_block (wx_loop ?_)
  simp only [evH, evX, evN, ↓reduceIte, Nat.reduceEqDiff, Nat.reduceAdd, Nat.reduceLeDiff, Nat.reduceLT, Nat.reduceSub, reduceCtorEq]
  refine ls_loop K (by omega) (fun tm hp => ?_) (fun tm hp t2 => ?_) l.length 0 [] (by omega) rfl (by simp)
  · refine wx_seq (wx_region fun K hK => ?_)
    simp only [evW, evX, evM, evN, evC, far, ↓reduceIte, Nat.reduceEqDiff, Nat.reduceAdd, Nat.reduceLeDiff, Nat.reduceSub, Nat.reduceLT, reduceCtorEq, not_true_eq_false, not_false_eq_true, Int.reduceEq, Int.reduceLT, Int.reduceLE, Int.reduceNeg]
    refine hK _ _ ?_; clear hK K
    refine wx_ret ⟨.inr rfl, (.d (.b true), []), ?_, rfl⟩
    simp only [evR, evX, evC, evN, ↓reduceIte, Nat.reduceEqDiff, Nat.reduceAdd, Nat.reduceLeDiff, Nat.reduceLT, Nat.reduceSub, reduceCtorEq, far, c105]
  · refine ⟨.inr rfl, (.d (.b true), []), ?_, rfl⟩
    simp only [evR, evX, evC, evN, ↓reduceIte, Nat.reduceEqDiff, Nat.reduceAdd, Nat.reduceLeDiff, Nat.reduceLT, Nat.reduceSub, reduceCtorEq, far, c105, t2]
end Ab

/-
  Rows that rise: which values they hold says what they are.
-/
namespace Ab
open Go
set_option linter.unusedVariables false

theorem insV_of {l : List Val} {v : Val} : v ∈ insV l v := by
  unfold insV
  split
  · rename_i x hx
    split
    · rename_i h0
      rw [← cmp_zero x v h0]
      exact List.mem_of_getElem? hx
    · simp
  · simp

theorem insV_sub {l : List Val} {v x : Val} (h : x ∈ l) : x ∈ insV l v := by
  have key : x ∈ l.take (posV v l) ++ [v] ++ l.drop (posV v l) := by
    rw [← List.take_append_drop (posV v l) l] at h
    rcases List.mem_append.1 h with h | h
    · simp [h]
    · simp [h]
  unfold insV
  split
  · split
    · exact h
    · exact key
  · exact key

/-- values put in one by one. -/
def insF (f : Nat → Val) : Nat → List Val
  | 0 => []
  | i + 1 => insV (insF f i) (f i)

theorem insF_chain (f : Nat → Val) : ∀ n, chainB ltV (insF f n) = true
  | 0 => rfl
  | n + 1 => insV_chain (insF_chain f n)

theorem insF_length (f : Nat → Val) : ∀ n, (insF f n).length ≤ n
  | 0 => Nat.le_refl _
  | n + 1 => by have := insV_length (insF f n) (f n); have := insF_length f n; simp only [insF]; omega

theorem insF_mem (f : Nat → Val) (x : Val) : ∀ n, x ∈ insF f n ↔ ∃ j, j < n ∧ f j = x
  | 0 => by simp [insF]
  | n + 1 => by
    simp only [insF]
    constructor
    · intro h
      rcases insV_mem h with h | h
      · obtain ⟨j, h1, h2⟩ := (insF_mem f x n).1 h
        exact ⟨j, by omega, h2⟩
      · exact ⟨n, by omega, h.symm⟩
    · rintro ⟨j, h1, h2⟩
      by_cases e : j = n
      · subst e; subst h2; exact insV_of
      · exact insV_sub ((insF_mem f x n).2 ⟨j, by omega, h2⟩)

theorem ltV_irr (x : Val) : ltV x x = false := by simp [ltV, cmp_refl]

theorem ltV_asy {x y : Val} (h : ltV x y = true) : ltV y x = false := by
  cases hh : ltV y x with
  | false => rfl
  | true => have := ltV_trans x y x h hh; rw [ltV_irr] at this; cases this

theorem chain_unique : ∀ (a b : List Val), chainB ltV a = true → chainB ltV b = true → (∀ x, x ∈ a ↔ x ∈ b) → a = b
  | [], [], _, _, _ => rfl
  | [], y :: b, _, _, h => by have := (h y).2 (by simp); simp at this
  | x :: a, [], _, _, h => by have := (h x).1 (by simp); simp at this
  | x :: a, y :: b, ha, hb, h => by
    have ax := chain_all ltV_trans ha
    have bx := chain_all ltV_trans hb
    have e : x = y := by
      rcases List.mem_cons.1 ((h x).1 (by simp)) with h1 | h1
      · exact h1
      · rcases List.mem_cons.1 ((h y).2 (by simp)) with h2 | h2
        · exact h2.symm
        · have l1 := bx x h1
          have l2 := ax y h2
          rw [ltV_asy l1] at l2; cases l2
    subst e
    have hne : ∀ (l : List Val), (∀ y ∈ l, ltV x y = true) → x ∉ l := fun l hl hm => by
      have := hl x hm
      rw [ltV_irr] at this; cases this
    rw [chain_unique a b (chain_tail ha) (chain_tail hb) (fun z => ?_)]
    constructor
    · intro hz
      rcases List.mem_cons.1 ((h z).1 (by simp [hz])) with h1 | h1
      · subst h1; exact absurd hz (hne a ax)
      · exact h1
    · intro hz
      rcases List.mem_cons.1 ((h z).2 (by simp [hz])) with h1 | h1
      · subst h1; exact absurd hz (hne b bx)
      · exact h1

/-- turned by so many: the same values. -/
theorem turn_mem {vals : List Val} {z : Val} (t : Nat) (hn : 0 < vals.length) (x : Val) : (∃ j, j < vals.length ∧ vals.getD ((j + t) % vals.length) z = x) ↔ (∃ j, j < vals.length ∧ vals.getD j z = x) := by
  constructor
  · rintro ⟨j, h1, h2⟩
    exact ⟨_, Nat.mod_lt _ hn, h2⟩
  · rintro ⟨j, h1, h2⟩
    refine ⟨(j + (vals.length - t % vals.length)) % vals.length, Nat.mod_lt _ hn, ?_⟩
    have : ((j + (vals.length - t % vals.length)) % vals.length + t) % vals.length = j := by
      have ht := Nat.mod_lt t hn
      have hd := Nat.div_add_mod t vals.length
      rw [Nat.mod_add_mod]
      have : j + (vals.length - t % vals.length) + t = j + vals.length * (t / vals.length + 1) := by
        rw [Nat.mul_add, Nat.mul_one]; omega
      rw [this, Nat.add_mul_mod_self_left, Nat.mod_eq_of_lt h1]
    rw [this]; exact h2

theorem insF_turn {vals : List Val} {z : Val} (t : Nat) : insF (fun j => vals.getD ((j + t) % vals.length) z) vals.length = insF (fun j => vals.getD j z) vals.length := by
  by_cases hn : vals.length = 0
  · rw [hn]; rfl
  · refine chain_unique _ _ (insF_chain _ _) (insF_chain _ _) (fun x => ?_)
    rw [insF_mem, insF_mem]
    exact turn_mem t (by omega) x

/-- how often a value stands in a row from a place on. -/
def cntV (v : Val) : List Val → Nat
  | [] => 0
  | x :: r => (if cmpV x v = 0 then 1 else 0) + cntV v r

theorem cntV_none (v : Val) : ∀ (l : List Val), (∀ x ∈ l, cmpV x v ≠ 0) → cntV v l = 0
  | [], _ => rfl
  | x :: r, h => by simp [cntV, h x (by simp), cntV_none v r (fun y hy => h y (by simp [hy]))]

theorem cntV_one (v : Val) : ∀ (l : List Val), chainB ltV l = true → v ∈ l → cntV v l = 1
  | [], _, h => by simp at h
  | x :: r, hc, h => by
    have ax := chain_all ltV_trans hc
    by_cases e : x = v
    · subst e
      have hr : cntV x r = 0 := cntV_none x r (fun y hy h0 => by
        have := cmp_zero y x h0
        subst this
        have := ax y hy
        rw [ltV_irr] at this; cases this)
      simp [cntV, cmp_refl, hr]
    · have hm : v ∈ r := by
        rcases List.mem_cons.1 h with h | h
        · exact absurd h.symm e
        · exact h
      have h0 : cmpV x v ≠ 0 := fun h0 => e (cmp_zero x v h0)
      simp [cntV, h0, cntV_one v r (chain_tail hc) hm]
end Ab

/-
  Values put into rows, in whatever order.
-/
namespace Ab
open Go
set_option linter.unusedVariables false
set_option linter.unusedSimpArgs false
set_option maxRecDepth 100000
variable {E : Nat → Option Fn}

def ss1 : CCode := match c104.body with
  | .seq _ (.seq _ (.seq _ (.seq _ (.seq (.seq _ (.block _ (.loop _ c))) _)))) => c
  | _ => .skip
def ss2 : CCode := match c104.body with
  | .seq _ (.seq _ (.seq _ (.seq _ (.seq _ (.seq (.seq _ (.block _ (.loop _ c))) _))))) => c
  | _ => .skip
def ssRest : CCode := match c104.body with
  | .seq _ (.seq _ (.seq _ (.seq _ (.seq _ (.seq _ c))))) => c
  | _ => .skip
def ss3 : CCode := match ssRest with
  | .seq _ (.seq (.seq _ (.block _ (.loop _ c))) _) => c
  | _ => .skip
def ss4 : CCode := match ssRest with
  | .seq _ (.seq _ (.seq (.seq _ (.block _ (.loop _ c))) _)) => c
  | _ => .skip

set_option maxHeartbeats 1000000 in
theorem ss1_loop (K : ValOk E) {l : List (List UInt8)} (hl : l.length ≤ 8) {t : Int} {Q : Ex → St → Prop}
    (hx : ∀ tm ws, ws.length = l.length → (∀ x ∈ ws, GenOk (bnd 2) x) → look tm 1 = .d (.i .u8 t) → look tm 5 = .own 0 0 4 (valRows ws) → look tm 6 = .nil 4 → look tm 7 = .nil 4 → Q (.exit 0) ⟨tm, [some (.tok 0 4)]⟩) (hr : ∀ tm hp, look tm 4 = .d (.b true) → Q .ret ⟨tm, hp⟩) :
    ∀ (m i : Nat) (ws : List Val), i + m = l.length → ws.length = i → (∀ x ∈ ws, GenOk (bnd 2) x) →
      LX E ss1 ⟨[0, 1, 5, 6, 7, 8], [5], [], [], [], true⟩ 1 ⟨[(0, .d (.l 1 (lotRows l))), (1, .d (.i .u8 t)), (5, .own 0 0 4 (valRows ws)), (6, .nil 4), (7, .nil 4), (8, .d (.i .i64 i))], [some (.tok 0 4)]⟩ Q := by
  intro m
  induction m with
  | zero =>
    intro i ws hi hw hok
    have hn : ¬ ((i : Int) < l.length) := by omega
    refine lx_step (wx_seq (wx_seq ?_))
    refine wx_region fun K hK => ?_
    simp only [evW, evX, evM, evN, evC, far, ↓reduceIte, Nat.reduceEqDiff, Nat.reduceAdd, Nat.reduceLeDiff, Nat.reduceSub, Nat.reduceLT, reduceCtorEq, not_true_eq_false, not_false_eq_true, Int.reduceEq, Int.reduceLT, Int.reduceLE, Int.reduceNeg, hn, lotRows_length]
    refine hK _ _ ?_; clear hK K
    refine wx_cond false rfl (fun h => by cases h) (fun _ => wx_exit ?_)
    exact hx _ ws (by omega) hok rfl rfl rfl rfl
  | succ m ih =>
    intro i ws hi hw hok
    have hy : (i : Int) < l.length := by omega
    have la : i < l.length := by omega
    have h0 : (0 : Int) ≤ i := by omega
    have ga : (lotRows l)[i]? = some [.l 1 (byteRows l[i])] := by rw [lotRows_get, List.getElem?_eq_getElem la]; rfl
    have w : IntKind.i64.wrap ((i : Int) + 1) = ((i + 1 : Nat) : Int) := by rw [i64_in (by omega) (by omega)]; omega
    generalize l[i] = b at *
    refine lx_step (wx_seq (wx_seq ?_))
    refine wx_region fun K hK => ?_
    simp only [evW, evX, evM, evN, evC, far, ↓reduceIte, Nat.reduceEqDiff, Nat.reduceAdd, Nat.reduceLeDiff, Nat.reduceSub, Nat.reduceLT, reduceCtorEq, not_true_eq_false, not_false_eq_true, Int.reduceEq, Int.reduceLT, Int.reduceLE, Int.reduceNeg, hy, lotRows_length]
    refine hK _ _ ?_; clear hK K
    refine wx_cond true rfl (fun _ => wx_skip ?_) (fun h => by cases h)
    refine wx_seq (wx_block ?_)
    refine wx_seq (wx_seq ?_)
    by_cases hb : (20 : Int) < b.length
    · refine wx_region fun K hK => ?_
      simp only [evW, evX, evM, evN, evC, far, ↓reduceIte, Nat.reduceEqDiff, Nat.reduceAdd, Nat.reduceLeDiff, Nat.reduceSub, Nat.reduceLT, reduceCtorEq, not_true_eq_false, not_false_eq_true, Int.reduceEq, Int.reduceLT, Int.reduceLE, Int.reduceNeg, h0, Int.toNat_natCast, ga, byteRows_length, eq_true hb]
      refine hK _ _ ?_; clear hK K
      refine wx_cond true rfl (fun _ => ?_) (fun h => by cases h)
      refine wx_seq (wx_region fun K hK => ?_)
      simp only [evW, evX, evM, evN, evC, far, ↓reduceIte, Nat.reduceEqDiff, Nat.reduceAdd, Nat.reduceLeDiff, Nat.reduceSub, Nat.reduceLT, reduceCtorEq, not_true_eq_false, not_false_eq_true, Int.reduceEq, Int.reduceLT, Int.reduceLE, Int.reduceNeg]
      refine hK _ _ ?_; clear hK K
      refine wx_ret (hr _ _ ?_)
      simp only [evX, evN, ↓reduceIte, Nat.reduceEqDiff]
    refine wx_region fun K hK => ?_
    simp only [evW, evX, evM, evN, evC, far, ↓reduceIte, Nat.reduceEqDiff, Nat.reduceAdd, Nat.reduceLeDiff, Nat.reduceSub, Nat.reduceLT, reduceCtorEq, not_true_eq_false, not_false_eq_true, Int.reduceEq, Int.reduceLT, Int.reduceLE, Int.reduceNeg, h0, Int.toNat_natCast, ga, byteRows_length, hb]
    refine hK _ _ ?_; clear hK K
    refine wx_cond false rfl (fun h => by cases h) (fun _ => wx_skip ?_)
    have m1 := K.made b
    obtain ⟨x, n', c1, _, g1⟩ := K.gen b (by omega) 2 (by omega) 0 (by omega)
    have d2 : ((2 : Nat) : Int) = 2 := rfl
    rw [d2] at c1
    have r2 : roomy (ws.length + 1) 56 = true := roomy_in (by omega)
    have hrow : valRows ws ++ [[.i .i64 x.kind, .i .i64 x.i, .s x.s, .l 4 (valRows x.l)]] = valRows (ws ++ [x]) := by rw [valRows_append]; simp [valRows, row_eq]
    refine wx_region fun K hK => ?_
    simp only [evW, evX, evM, evN, evC, far, ↓reduceIte, Nat.reduceEqDiff, Nat.reduceAdd, Nat.reduceLeDiff, Nat.reduceSub, Nat.reduceLT, reduceCtorEq, not_true_eq_false, not_false_eq_true, Int.reduceEq, Int.reduceLT, Int.reduceLE, Int.reduceNeg, h0, Int.toNat_natCast, ga, m1, c1, range_one, valRows_length, r2, hrow]
    refine hK _ _ ?_; clear hK K
    refine wx_region fun K hK => ?_
    simp only [evW, evX, evM, evN, evC, far, ↓reduceIte, Nat.reduceEqDiff, Nat.reduceAdd, Nat.reduceLeDiff, Nat.reduceSub, Nat.reduceLT, reduceCtorEq, not_true_eq_false, not_false_eq_true, Int.reduceEq, Int.reduceLT, Int.reduceLE, Int.reduceNeg, w]
    refine hK _ _ ?_; clear hK K
    refine ⟨_, ?_, ih (i + 1) (ws ++ [x]) (by omega) (by simp; omega) (fun y hy => ?_)⟩
    · simp only [evH, evX, evN, ↓reduceIte, Nat.reduceEqDiff, Nat.reduceAdd, Nat.reduceLeDiff, Nat.reduceLT, Nat.reduceSub, reduceCtorEq]
    · rcases List.mem_append.1 hy with h | h
      · exact hok y h
      · rw [List.mem_singleton.1 h]; exact g1

abbrev zV : Val := .mk 0 0 [] []
abbrev atV (vs : List Val) (j : Nat) : Val := vs.getD j zV

theorem atV_row {vs : List Val} {j : Nat} (h : j < vs.length) : (valRows vs)[j]? = some (Val.row (atV vs j)) := by
  rw [valRows_get, List.getElem?_eq_getElem h]
  simp [h]

theorem atV_mem {vs : List Val} {j : Nat} (h : j < vs.length) : atV vs j ∈ vs := by
  simp [h]

set_option maxHeartbeats 1000000 in
theorem ss2_loop (K : ValOk E) {vs : List Val} (hl : vs.length ≤ 8) (hs : ∀ x ∈ vs, Small x) {t : UInt8} {Q : Ex → St → Prop}
    (hx : ∀ tm, look tm 5 = .own 0 0 4 (valRows vs) → look tm 6 = .d (.l 4 (valRows (insF (atV vs) vs.length))) → look tm 7 = .d (.l 4 (valRows (insF (fun j => atV vs ((j + t.toNat) % vs.length)) vs.length))) → Q (.exit 2) ⟨tm, [some (.tok 0 4)]⟩) :
    ∀ (m i : Nat), i + m = vs.length →
      LX E ss2 ⟨[1, 5, 6, 7, 9], [], [], [6, 7], [], true⟩ 1 ⟨[(1, .d (.i .u8 t.toNat)), (5, .own 0 0 4 (valRows vs)), (6, .d (.l 4 (valRows (insF (atV vs) i)))), (7, .d (.l 4 (valRows (insF (fun j => atV vs ((j + t.toNat) % vs.length)) i)))), (9, .d (.i .i64 i))], [some (.tok 0 4)]⟩ Q := by
  intro m
  induction m with
  | zero =>
    intro i hi
    have hn : ¬ ((i : Int) < vs.length) := by omega
    have e : i = vs.length := by omega
    refine lx_step (wx_seq (wx_seq ?_))
    refine wx_region fun K hK => ?_
    simp only [evW, evX, evM, evN, evC, far, ↓reduceIte, Nat.reduceEqDiff, Nat.reduceAdd, Nat.reduceLeDiff, Nat.reduceSub, Nat.reduceLT, reduceCtorEq, not_true_eq_false, not_false_eq_true, Int.reduceEq, Int.reduceLT, Int.reduceLE, Int.reduceNeg, hn, valRows_length]
    refine hK _ _ ?_; clear hK K
    refine wx_cond false rfl (fun h => by cases h) (fun _ => wx_exit ?_)
    rw [e]
    exact hx _ rfl rfl rfl
  | succ m ih =>
    intro i hi
    have hy : (i : Int) < vs.length := by omega
    have la : i < vs.length := by omega
    have h0 : (0 : Int) ≤ i := by omega
    have hlt : (i + t.toNat) % vs.length < vs.length := Nat.mod_lt _ (by omega)
    have h1 : (0 : Int) ≤ (((i + t.toNat) % vs.length : Nat) : Int) := by omega
    have ga := atV_row la
    have gb := atV_row hlt
    have sa := hs _ (atV_mem la)
    have sb := hs _ (atV_mem hlt)
    have small : ∀ (f : Nat → Val), (∀ j, j < vs.length → Small (f j)) → ∀ x ∈ insF f i, Small x := fun f hf x hx => by
      obtain ⟨j, h1, rfl⟩ := (insF_mem f x i).1 hx
      exact hf j (by omega)
    obtain ⟨r1, h1', i1, i1'⟩ := K.ins (insF (atV vs) i) (atV vs i) (by have := insF_length (atV vs) i; omega) (small _ (fun j hj => hs _ (atV_mem hj))) sa (insF_chain _ _)
    obtain ⟨r2, h2', i2, i2'⟩ := K.ins (insF (fun j => atV vs ((j + t.toNat) % vs.length)) i) (atV vs ((i + t.toNat) % vs.length)) (by have := insF_length (fun j => atV vs ((j + t.toNat) % vs.length)) i; omega) (small _ (fun j hj => hs _ (atV_mem (Nat.mod_lt _ (by omega))))) sb (insF_chain _ _)
    rw [settle_ids] at i1' i2'
    have e1 : insV (insF (atV vs) i) (atV vs i) = insF (atV vs) (i + 1) := rfl
    have e2 : insV (insF (fun j => atV vs ((j + t.toNat) % vs.length)) i) (atV vs ((i + t.toNat) % vs.length)) = insF (fun j => atV vs ((j + t.toNat) % vs.length)) (i + 1) := rfl
    rw [e1] at i1'
    rw [e2] at i2'
    have ht := t.toNat_lt
    have w : IntKind.i64.wrap ((i : Int) + 1) = ((i + 1 : Nat) : Int) := by rw [i64_in (by omega) (by omega)]; omega
    have wt : IntKind.i64.wrap (t.toNat : Int) = (t.toNat : Int) := i64_in (by omega) (by omega)
    have wa : IntKind.i64.wrap ((i : Int) + (t.toNat : Int)) = ((i + t.toNat : Nat) : Int) := by rw [i64_in (by omega) (by omega)]; omega
    have wm : (((i + t.toNat : Nat) : Int)).tmod (vs.length : Int) = (((i + t.toNat) % vs.length : Nat) : Int) := rfl
    have wz : ¬ ((vs.length : Int) = 0) := by omega
    generalize hA : atV vs i = xa at *
    generalize hB : atV vs ((i + t.toNat) % vs.length) = xb at *
    generalize hp : (i + t.toNat) % vs.length = p at *
    refine lx_step (wx_seq (wx_seq ?_))
    refine wx_region fun K hK => ?_
    simp only [evW, evX, evM, evN, evC, far, ↓reduceIte, Nat.reduceEqDiff, Nat.reduceAdd, Nat.reduceLeDiff, Nat.reduceSub, Nat.reduceLT, reduceCtorEq, not_true_eq_false, not_false_eq_true, Int.reduceEq, Int.reduceLT, Int.reduceLE, Int.reduceNeg, hy, valRows_length]
    refine hK _ _ ?_; clear hK K
    refine wx_cond true rfl (fun _ => wx_skip ?_) (fun h => by cases h)
    refine wx_seq (wx_block ?_)
    refine wx_seq (wx_region fun K hK => ?_)
    simp only [evW, evX, evM, evN, evC, far, ↓reduceIte, Nat.reduceEqDiff, Nat.reduceAdd, Nat.reduceLeDiff, Nat.reduceSub, Nat.reduceLT, reduceCtorEq, not_true_eq_false, not_false_eq_true, Int.reduceEq, Int.reduceLT, Int.reduceLE, Int.reduceNeg, h0, Int.toNat_natCast, ga, row_eq, i1, i1']
    refine hK _ _ ?_; clear hK K
    refine wx_region fun K hK => ?_
    simp only [evW, evX, evM, evN, evC, far, ↓reduceIte, Nat.reduceEqDiff, Nat.reduceAdd, Nat.reduceLeDiff, Nat.reduceSub, Nat.reduceLT, reduceCtorEq, not_true_eq_false, not_false_eq_true, Int.reduceEq, Int.reduceLT, Int.reduceLE, Int.reduceNeg, h0, h1, Int.toNat_natCast, gb, row_eq, i2, i2', wt, wa, wm, wz, valRows_length]
    refine hK _ _ ?_; clear hK K
    refine wx_region fun K hK => ?_
    simp only [evW, evX, evM, evN, evC, far, ↓reduceIte, Nat.reduceEqDiff, Nat.reduceAdd, Nat.reduceLeDiff, Nat.reduceSub, Nat.reduceLT, reduceCtorEq, not_true_eq_false, not_false_eq_true, Int.reduceEq, Int.reduceLT, Int.reduceLE, Int.reduceNeg, w]
    refine hK _ _ ?_; clear hK K
    refine ⟨_, ?_, ih (i + 1) (by omega)⟩
    simp only [evH, evX, evN, ↓reduceIte, Nat.reduceEqDiff, Nat.reduceAdd, Nat.reduceLeDiff, Nat.reduceLT, Nat.reduceSub, reduceCtorEq]

theorem chain_at {p : Val → Val → Bool} : ∀ {l : List Val} {i : Nat} (h : i + 1 < l.length), chainB p l = true → p (l[i]'(by omega)) l[i + 1] = true
  | [], i, h, _ => by simp at h
  | [x], i, h, _ => by simp at h
  | x :: y :: r, 0, h, hc => by simp only [chainB, Bool.and_eq_true] at hc; exact hc.1
  | x :: y :: r, i + 1, h, hc => chain_at (l := y :: r) (i := i) (by simpa using h) (chain_tail hc)

set_option maxHeartbeats 1000000 in
theorem ss3_loop (K : ValOk E) {vs a : List Val} (hl : a.length ≤ 8) (hs : ∀ x ∈ a, Small x) (hc : chainB ltV a = true) {Q : Ex → St → Prop}
    (hx : ∀ tm, look tm 5 = .own 0 0 4 (valRows vs) → look tm 6 = .d (.l 4 (valRows a)) → Q (.exit 4) ⟨tm, [some (.tok 0 4)]⟩) :
    ∀ (m i : Nat), i + m = a.length →
      LX E ss3 ⟨[5, 6, 10], [], [], [], [], true⟩ 1 ⟨[(5, .own 0 0 4 (valRows vs)), (6, .d (.l 4 (valRows a))), (10, .d (.i .i64 i))], [some (.tok 0 4)]⟩ Q := by
  intro m
  induction m with
  | zero =>
    intro i hi
    have hn : ¬ ((i : Int) < a.length) := by omega
    refine lx_step (wx_seq (wx_seq ?_))
    refine wx_region fun K hK => ?_
    simp only [evW, evX, evM, evN, evC, far, ↓reduceIte, Nat.reduceEqDiff, Nat.reduceAdd, Nat.reduceLeDiff, Nat.reduceSub, Nat.reduceLT, reduceCtorEq, not_true_eq_false, not_false_eq_true, Int.reduceEq, Int.reduceLT, Int.reduceLE, Int.reduceNeg, hn, valRows_length]
    refine hK _ _ ?_; clear hK K
    refine wx_cond false rfl (fun h => by cases h) (fun _ => wx_exit ?_)
    exact hx _ rfl rfl
  | succ m ih =>
    intro i hi
    have hy : (i : Int) < a.length := by omega
    have la : i < a.length := by omega
    have h0 : (0 : Int) ≤ i := by omega
    have w : IntKind.i64.wrap ((i : Int) + 1) = ((i + 1 : Nat) : Int) := by rw [i64_in (by omega) (by omega)]; omega
    refine lx_step (wx_seq (wx_seq ?_))
    refine wx_region fun K hK => ?_
    simp only [evW, evX, evM, evN, evC, far, ↓reduceIte, Nat.reduceEqDiff, Nat.reduceAdd, Nat.reduceLeDiff, Nat.reduceSub, Nat.reduceLT, reduceCtorEq, not_true_eq_false, not_false_eq_true, Int.reduceEq, Int.reduceLT, Int.reduceLE, Int.reduceNeg, hy, valRows_length]
    refine hK _ _ ?_; clear hK K
    refine wx_cond true rfl (fun _ => wx_skip ?_) (fun h => by cases h)
    refine wx_seq (wx_block ?_)
    refine wx_seq ?_
    cases i with
    | zero =>
      have hz : ¬ ((0 : Int) < ((0 : Nat) : Int)) := by omega
      refine wx_regionT fun K hK => ?_
      simp only [evW, evX, evM, evN, evC, far, ↓reduceIte, Nat.reduceEqDiff, Nat.reduceAdd, Nat.reduceLeDiff, Nat.reduceSub, Nat.reduceLT, reduceCtorEq, not_true_eq_false, not_false_eq_true, Int.reduceEq, Int.reduceLT, Int.reduceLE, Int.reduceNeg, hz]
      refine hK _ _ (by rfl) ?_; clear hK K
      refine wx_cond false rfl (fun h => by cases h) (fun _ => wx_skip ?_)
      refine wx_region fun K hK => ?_
      simp only [evW, evX, evM, evN, evC, far, ↓reduceIte, Nat.reduceEqDiff, Nat.reduceAdd, Nat.reduceLeDiff, Nat.reduceSub, Nat.reduceLT, reduceCtorEq, not_true_eq_false, not_false_eq_true, Int.reduceEq, Int.reduceLT, Int.reduceLE, Int.reduceNeg, w]
      refine hK _ _ ?_; clear hK K
      refine ⟨_, ?_, ih 1 (by omega)⟩
      simp only [evH, evX, evN, ↓reduceIte, Nat.reduceEqDiff, Nat.reduceAdd, Nat.reduceLeDiff, Nat.reduceLT, Nat.reduceSub, reduceCtorEq]
    | succ j =>
      have hz : (0 : Int) < ((j + 1 : Nat) : Int) := by omega
      have w1 : IntKind.i64.wrap (((j + 1 : Nat) : Int) - 1) = (j : Int) := by rw [i64_in (by omega) (by omega)]; omega
      have hj0 : (0 : Int) ≤ (j : Nat) := by omega
      have lj : j < a.length := by omega
      have ga : (valRows a)[j]? = some (Val.row a[j]) := by rw [valRows_get, List.getElem?_eq_getElem lj]; rfl
      have gb : (valRows a)[j + 1]? = some (Val.row a[j + 1]) := by rw [valRows_get, List.getElem?_eq_getElem la]; rfl
      have hlt := chain_at (i := j) la hc
      have hcm := K.cmp a[j] a[j + 1] (hs _ (List.getElem_mem lj)) (hs _ (List.getElem_mem la))
      have hm1 : cmpV a[j] a[j + 1] = -1 := by
        simp only [ltV, decide_eq_true_eq] at hlt
        rcases cmp_range a[j] a[j + 1] with h | h | h <;> omega
      rw [hm1] at hcm
      generalize a[j] = x at *
      generalize a[j + 1] = y at *
      refine wx_regionT fun K hK => ?_
      simp only [evW, evX, evM, evN, evC, far, ↓reduceIte, Nat.reduceEqDiff, Nat.reduceAdd, Nat.reduceLeDiff, Nat.reduceSub, Nat.reduceLT, reduceCtorEq, not_true_eq_false, not_false_eq_true, Int.reduceEq, Int.reduceLT, Int.reduceLE, Int.reduceNeg, hz, w1, hj0, h0, Int.toNat_natCast, ga, gb, row_eq, hcm]
      refine hK _ _ (by rfl) ?_; clear hK K
      refine wx_cond false rfl (fun h => by cases h) (fun _ => wx_skip ?_)
      refine wx_region fun K hK => ?_
      simp only [evW, evX, evM, evN, evC, far, ↓reduceIte, Nat.reduceEqDiff, Nat.reduceAdd, Nat.reduceLeDiff, Nat.reduceSub, Nat.reduceLT, reduceCtorEq, not_true_eq_false, not_false_eq_true, Int.reduceEq, Int.reduceLT, Int.reduceLE, Int.reduceNeg, w]
      refine hK _ _ ?_; clear hK K
      refine ⟨_, ?_, ih (j + 1 + 1) (by omega)⟩
      simp only [evH, evX, evN, ↓reduceIte, Nat.reduceEqDiff, Nat.reduceAdd, Nat.reduceLeDiff, Nat.reduceLT, Nat.reduceSub, reduceCtorEq]

def ss5 : CCode := match ss4 with
  | .seq _ (.seq (.block _ (.seq _ (.seq (.seq _ (.block _ (.loop _ c))) _))) _) => c
  | _ => .skip

set_option maxHeartbeats 1000000 in
theorem ss5_loop (K : ValOk E) {vs a : List Val} {v : Val} {i : Nat} (hl : a.length ≤ 8) (hs : ∀ x ∈ a, Small x) (hv : Small v) (gv : (valRows vs)[i]? = some v.row) {Q : Ex → St → Prop}
    (hx : ∀ tm, look tm 5 = .own 0 0 4 (valRows vs) → look tm 6 = .d (.l 4 (valRows a)) → look tm 11 = .d (.i .i64 i) → look tm 12 = .d (.i .i64 1) → Q (.exit 8) ⟨tm, [some (.tok 0 4)]⟩) :
    ∀ (m k n : Nat), k + m = a.length → n + cntV v (a.drop k) = 1 →
      LX E ss5 ⟨[5, 6, 11, 12, 13], [], [], [], [], true⟩ 1 ⟨[(5, .own 0 0 4 (valRows vs)), (6, .d (.l 4 (valRows a))), (11, .d (.i .i64 i)), (12, .d (.i .i64 n)), (13, .d (.i .i64 k))], [some (.tok 0 4)]⟩ Q := by
  intro m
  induction m with
  | zero =>
    intro k n hk hn1
    have hn : ¬ ((k : Int) < a.length) := by omega
    rw [List.drop_of_length_le (by omega)] at hn1
    simp only [cntV, Nat.add_zero] at hn1
    subst hn1
    refine lx_step (wx_seq (wx_seq ?_))
    refine wx_region fun K hK => ?_
    simp only [evW, evX, evM, evN, evC, far, ↓reduceIte, Nat.reduceEqDiff, Nat.reduceAdd, Nat.reduceLeDiff, Nat.reduceSub, Nat.reduceLT, reduceCtorEq, not_true_eq_false, not_false_eq_true, Int.reduceEq, Int.reduceLT, Int.reduceLE, Int.reduceNeg, hn, valRows_length]
    refine hK _ _ ?_; clear hK K
    refine wx_cond false rfl (fun h => by cases h) (fun _ => wx_exit ?_)
    exact hx _ rfl rfl rfl rfl
  | succ m ih =>
    intro k n hk hn1
    have hy : (k : Int) < a.length := by omega
    have lk : k < a.length := by omega
    have h0 : (0 : Int) ≤ k := by omega
    have hi0 : (0 : Int) ≤ (i : Nat) := by omega
    rw [drop_cons lk] at hn1
    simp only [cntV] at hn1
    have w : IntKind.i64.wrap ((k : Int) + 1) = ((k + 1 : Nat) : Int) := by rw [i64_in (by omega) (by omega)]; omega
    have wn : IntKind.i64.wrap ((n : Int) + 1) = ((n + 1 : Nat) : Int) := by rw [i64_in (by omega) (by omega)]; omega
    have ga : (valRows a)[k]? = some (Val.row a[k]) := by rw [valRows_get, List.getElem?_eq_getElem lk]; rfl
    have hcm := K.cmp a[k] v (hs _ (List.getElem_mem lk)) hv
    generalize a[k] = x at *
    refine lx_step (wx_seq (wx_seq ?_))
    refine wx_region fun K hK => ?_
    simp only [evW, evX, evM, evN, evC, far, ↓reduceIte, Nat.reduceEqDiff, Nat.reduceAdd, Nat.reduceLeDiff, Nat.reduceSub, Nat.reduceLT, reduceCtorEq, not_true_eq_false, not_false_eq_true, Int.reduceEq, Int.reduceLT, Int.reduceLE, Int.reduceNeg, hy, valRows_length]
    refine hK _ _ ?_; clear hK K
    refine wx_cond true rfl (fun _ => wx_skip ?_) (fun h => by cases h)
    refine wx_seq (wx_block ?_)
    refine wx_seq ?_
    by_cases hz : cmpV x v = 0
    · rw [if_pos hz] at hn1
      refine wx_regionT fun K hK => ?_
      simp only [evW, evX, evM, evN, evC, far, ↓reduceIte, Nat.reduceEqDiff, Nat.reduceAdd, Nat.reduceLeDiff, Nat.reduceSub, Nat.reduceLT, reduceCtorEq, not_true_eq_false, not_false_eq_true, Int.reduceEq, Int.reduceLT, Int.reduceLE, Int.reduceNeg, h0, hi0, Int.toNat_natCast, ga, gv, row_eq, hcm, eq_true hz]
      refine hK _ _ (by rfl) ?_; clear hK K
      refine wx_cond true rfl (fun _ => ?_) (fun h => by cases h)
      refine wx_region fun K hK => ?_
      simp only [evW, evX, evM, evN, evC, far, ↓reduceIte, Nat.reduceEqDiff, Nat.reduceAdd, Nat.reduceLeDiff, Nat.reduceSub, Nat.reduceLT, reduceCtorEq, not_true_eq_false, not_false_eq_true, Int.reduceEq, Int.reduceLT, Int.reduceLE, Int.reduceNeg, wn]
      refine hK _ _ ?_; clear hK K
      refine wx_region fun K hK => ?_
      simp only [evW, evX, evM, evN, evC, far, ↓reduceIte, Nat.reduceEqDiff, Nat.reduceAdd, Nat.reduceLeDiff, Nat.reduceSub, Nat.reduceLT, reduceCtorEq, not_true_eq_false, not_false_eq_true, Int.reduceEq, Int.reduceLT, Int.reduceLE, Int.reduceNeg, w]
      refine hK _ _ ?_; clear hK K
      refine ⟨_, ?_, ih (k + 1) (n + 1) (by omega) (by omega)⟩
      simp only [evH, evX, evN, ↓reduceIte, Nat.reduceEqDiff, Nat.reduceAdd, Nat.reduceLeDiff, Nat.reduceLT, Nat.reduceSub, reduceCtorEq]
    · rw [if_neg hz] at hn1
      refine wx_regionT fun K hK => ?_
      simp only [evW, evX, evM, evN, evC, far, ↓reduceIte, Nat.reduceEqDiff, Nat.reduceAdd, Nat.reduceLeDiff, Nat.reduceSub, Nat.reduceLT, reduceCtorEq, not_true_eq_false, not_false_eq_true, Int.reduceEq, Int.reduceLT, Int.reduceLE, Int.reduceNeg, h0, hi0, Int.toNat_natCast, ga, gv, row_eq, hcm, hz]
      refine hK _ _ (by rfl) ?_; clear hK K
      refine wx_cond false rfl (fun h => by cases h) (fun _ => wx_skip ?_)
      refine wx_region fun K hK => ?_
      simp only [evW, evX, evM, evN, evC, far, ↓reduceIte, Nat.reduceEqDiff, Nat.reduceAdd, Nat.reduceLeDiff, Nat.reduceSub, Nat.reduceLT, reduceCtorEq, not_true_eq_false, not_false_eq_true, Int.reduceEq, Int.reduceLT, Int.reduceLE, Int.reduceNeg, w]
      refine hK _ _ ?_; clear hK K
      refine ⟨_, ?_, ih (k + 1) n (by omega) (by omega)⟩
      simp only [evH, evX, evN, ↓reduceIte, Nat.reduceEqDiff, Nat.reduceAdd, Nat.reduceLeDiff, Nat.reduceLT, Nat.reduceSub, reduceCtorEq]

set_option maxHeartbeats 1000000 in
theorem ss4_loop (K : ValOk E) {vs a : List Val} (hlv : vs.length ≤ 8) (hl : a.length ≤ 8) (hs : ∀ x ∈ a, Small x) (hc : chainB ltV a = true) (hm : ∀ x ∈ vs, x ∈ a) {Q : Ex → St → Prop} (hx : ∀ tm, Q (.exit 6) ⟨tm, [some (.tok 0 4)]⟩) :
    ∀ (m i : Nat), i + m = vs.length →
      LX E ss4 ⟨[5, 6, 11], [], [], [], [], true⟩ 1 ⟨[(5, .own 0 0 4 (valRows vs)), (6, .d (.l 4 (valRows a))), (11, .d (.i .i64 i))], [some (.tok 0 4)]⟩ Q := by
  intro m
  induction m with
  | zero =>
    intro i hi
    have hn : ¬ ((i : Int) < vs.length) := by omega
    refine lx_step (wx_seq (wx_seq ?_))
    refine wx_region fun K hK => ?_
    simp only [evW, evX, evM, evN, evC, far, ↓reduceIte, Nat.reduceEqDiff, Nat.reduceAdd, Nat.reduceLeDiff, Nat.reduceSub, Nat.reduceLT, reduceCtorEq, not_true_eq_false, not_false_eq_true, Int.reduceEq, Int.reduceLT, Int.reduceLE, Int.reduceNeg, hn, valRows_length]
    refine hK _ _ ?_; clear hK K
    refine wx_cond false rfl (fun h => by cases h) (fun _ => wx_exit ?_)
    exact hx _
  | succ m ih =>
    intro i hi
    have hy : (i : Int) < vs.length := by omega
    have la : i < vs.length := by omega
    have gv : (valRows vs)[i]? = some (Val.row vs[i]) := by rw [valRows_get, List.getElem?_eq_getElem la]; rfl
    have hv := hm _ (List.getElem_mem la)
    have hone := cntV_one vs[i] a hc hv
    have w : IntKind.i64.wrap ((i : Int) + 1) = ((i + 1 : Nat) : Int) := by rw [i64_in (by omega) (by omega)]; omega
    refine lx_step (wx_seq (wx_seq ?_))
    refine wx_region fun K hK => ?_
    simp only [evW, evX, evM, evN, evC, far, ↓reduceIte, Nat.reduceEqDiff, Nat.reduceAdd, Nat.reduceLeDiff, Nat.reduceSub, Nat.reduceLT, reduceCtorEq, not_true_eq_false, not_false_eq_true, Int.reduceEq, Int.reduceLT, Int.reduceLE, Int.reduceNeg, hy, valRows_length]
    refine hK _ _ ?_; clear hK K
    refine wx_cond true rfl (fun _ => wx_skip ?_) (fun h => by cases h)
    refine wx_seq (wx_block ?_)
    refine wx_seq (wx_region fun K hK => ?_)
    simp only [evW, evX, evM, evN, evC, far, ↓reduceIte, Nat.reduceEqDiff, Nat.reduceAdd, Nat.reduceLeDiff, Nat.reduceSub, Nat.reduceLT, reduceCtorEq, not_true_eq_false, not_false_eq_true, Int.reduceEq, Int.reduceLT, Int.reduceLE, Int.reduceNeg]
    refine hK _ _ ?_; clear hK K
    refine wx_seq (wx_seq ?_)
    refine wx_region fun K hK => ?_
    simp only [evW, evX, evM, evN, evC, far, ↓reduceIte, Nat.reduceEqDiff, Nat.reduceAdd, Nat.reduceLeDiff, Nat.reduceSub, Nat.reduceLT, reduceCtorEq, not_true_eq_false, not_false_eq_true, Int.reduceEq, Int.reduceLT, Int.reduceLE, Int.reduceNeg]
    refine hK _ _ ?_; clear hK K
    refine wx_block (wx_loop ?_)
    simp only [evH, evX, evN, ↓reduceIte, Nat.reduceEqDiff, Nat.reduceAdd, Nat.reduceLeDiff, Nat.reduceLT, Nat.reduceSub, reduceCtorEq]
    refine ss5_loop K hl hs (hs _ hv) gv (fun tm t5 t6 t11 t12 => ?_) a.length 0 0 (by omega) (by simpa using hone)
    refine wx_seq ?_
    refine wx_region fun K hK => ?_
    simp only [evW, evX, evM, evN, evC, far, ↓reduceIte, Nat.reduceEqDiff, Nat.reduceAdd, Nat.reduceLeDiff, Nat.reduceSub, Nat.reduceLT, reduceCtorEq, not_true_eq_false, not_false_eq_true, Int.reduceEq, Int.reduceLT, Int.reduceLE, Int.reduceNeg, t12]
    refine hK _ _ ?_; clear hK K
    refine wx_cond false rfl (fun h => by cases h) (fun _ => wx_skip ?_)
    refine wx_region fun K hK => ?_
    simp only [evW, evX, evM, evN, evC, far, ↓reduceIte, Nat.reduceEqDiff, Nat.reduceAdd, Nat.reduceLeDiff, Nat.reduceSub, Nat.reduceLT, reduceCtorEq, not_true_eq_false, not_false_eq_true, Int.reduceEq, Int.reduceLT, Int.reduceLE, Int.reduceNeg, t11, w]
    refine hK _ _ ?_; clear hK K
    refine ⟨_, ?_, ih (i + 1) (by omega)⟩
    simp only [evH, evX, evN, ↓reduceIte, Nat.reduceEqDiff, Nat.reduceAdd, Nat.reduceLeDiff, Nat.reduceLT, Nat.reduceSub, reduceCtorEq, t5, t6]

set_option maxHeartbeats 1000000 in
theorem sets_ok (h104 : E 104 = some (.code c104)) (K : ValOk E) (l : List (List UInt8)) (t : UInt8) : ∃ h', lcall E 104 [.d (.l 1 (lotRows l)), .d (.i .u8 t.toNat)] [] = some (.d (.b true), h') := by
  have hb := K.begun
  refine (call_wxP h104 (R := fun x => x.1 = .d (.b true)) ?_).elim fun x hx => ⟨x.2, by rw [hx.1, ← hx.2]⟩
  refine wx_seq (wx_region fun K hK => ?_)
  simp only [evW, evX, evM, evN, evC, far, ↓reduceIte, Nat.reduceEqDiff, Nat.reduceAdd, Nat.reduceLeDiff, Nat.reduceSub, Nat.reduceLT, reduceCtorEq, not_true_eq_false, not_false_eq_true, Int.reduceEq, Int.reduceLT, Int.reduceLE, Int.reduceNeg]
  refine hK _ _ ?_; clear hK K
  refine wx_seq (wx_seq ?_)
  refine wx_region fun K hK => ?_
  simp only [evW, evX, evM, evN, evC, far, ↓reduceIte, Nat.reduceEqDiff, Nat.reduceAdd, Nat.reduceLeDiff, Nat.reduceSub, Nat.reduceLT, reduceCtorEq, not_true_eq_false, not_false_eq_true, Int.reduceEq, Int.reduceLT, Int.reduceLE, Int.reduceNeg, hb]
  refine hK _ _ ?_; clear hK K
  refine wx_cond false rfl (fun h => by cases h) (fun _ => wx_skip ?_)
  refine wx_seq (wx_seq ?_)
  by_cases hl : (8 : Int) < l.length
  · refine wx_region fun K hK => ?_
    simp only [evW, evX, evM, evN, evC, far, ↓reduceIte, Nat.reduceEqDiff, Nat.reduceAdd, Nat.reduceLeDiff, Nat.reduceSub, Nat.reduceLT, reduceCtorEq, not_true_eq_false, not_false_eq_true, Int.reduceEq, Int.reduceLT, Int.reduceLE, Int.reduceNeg, eq_true hl, lotRows_length]
    refine hK _ _ ?_; clear hK K
    refine wx_cond true rfl (fun _ => ?_) (fun h => by cases h)
    refine wx_seq (wx_region fun K hK => ?_)
    simp only [evW, evX, evM, evN, evC, far, ↓reduceIte, Nat.reduceEqDiff, Nat.reduceAdd, Nat.reduceLeDiff, Nat.reduceSub, Nat.reduceLT, reduceCtorEq, not_true_eq_false, not_false_eq_true, Int.reduceEq, Int.reduceLT, Int.reduceLE, Int.reduceNeg]
    refine hK _ _ ?_; clear hK K
    refine wx_ret ⟨.inr rfl, (.d (.b true), []), ?_, rfl⟩
    simp only [evR, evX, evC, evN, ↓reduceIte, Nat.reduceEqDiff, Nat.reduceAdd, Nat.reduceLeDiff, Nat.reduceLT, Nat.reduceSub, reduceCtorEq, far, c104]
  refine wx_region fun K hK => ?_
  simp only [evW, evX, evM, evN, evC, far, ↓reduceIte, Nat.reduceEqDiff, Nat.reduceAdd, Nat.reduceLeDiff, Nat.reduceSub, Nat.reduceLT, reduceCtorEq, not_true_eq_false, not_false_eq_true, Int.reduceEq, Int.reduceLT, Int.reduceLE, Int.reduceNeg, hl, lotRows_length]
  refine hK _ _ ?_; clear hK K
  refine wx_cond false rfl (fun h => by cases h) (fun _ => wx_skip ?_)
  refine wx_seq (wx_region fun K hK => ?_)
  simp only [evW, evX, evM, evN, evC, far, ↓reduceIte, Nat.reduceEqDiff, Nat.reduceAdd, Nat.reduceLeDiff, Nat.reduceSub, Nat.reduceLT, reduceCtorEq, not_true_eq_false, not_false_eq_true, Int.reduceEq, Int.reduceLT, Int.reduceLE, Int.reduceNeg]
  refine hK _ _ ?_; clear hK K
  refine wx_seq (wx_seq ?_)
  refine wx_region fun K hK => ?_
  simp only [evW, evX, evM, evN, evC, far, ↓reduceIte, Nat.reduceEqDiff, Nat.reduceAdd, Nat.reduceLeDiff, Nat.reduceSub, Nat.reduceLT, reduceCtorEq, not_true_eq_false, not_false_eq_true, Int.reduceEq, Int.reduceLT, Int.reduceLE, Int.reduceNeg]
  refine hK _ _ ?_; clear hK K
  refine wx_block (wx_loop ?_)
  simp only [evH, evX, evN, ↓reduceIte, Nat.reduceEqDiff, Nat.reduceAdd, Nat.reduceLeDiff, Nat.reduceLT, Nat.reduceSub, reduceCtorEq]
  refine ss1_loop K (by omega) (fun tm ws hw hok t1 t5 t6 t7 => ?_) (fun tm hp t4 => ?_) l.length 0 [] (by omega) rfl (by simp)
  rotate_left
  · refine ⟨.inr rfl, (.d (.b true), []), ?_, rfl⟩
    simp only [evR, evX, evC, evN, ↓reduceIte, Nat.reduceEqDiff, Nat.reduceAdd, Nat.reduceLeDiff, Nat.reduceLT, Nat.reduceSub, reduceCtorEq, far, c104, t4]
  refine wx_seq (wx_seq ?_)
  refine wx_region fun K hK => ?_
  simp only [evW, evX, evM, evN, evC, far, ↓reduceIte, Nat.reduceEqDiff, Nat.reduceAdd, Nat.reduceLeDiff, Nat.reduceSub, Nat.reduceLT, reduceCtorEq, not_true_eq_false, not_false_eq_true, Int.reduceEq, Int.reduceLT, Int.reduceLE, Int.reduceNeg]
  refine hK _ _ ?_; clear hK K
  refine wx_block (wx_loop ?_)
  simp only [evH, evX, evN, ↓reduceIte, Nat.reduceEqDiff, Nat.reduceAdd, Nat.reduceLeDiff, Nat.reduceLT, Nat.reduceSub, reduceCtorEq, t1, t5, t6, t7]
  refine ss2_loop K (by omega) (fun x hx => (hok x hx).small) (fun tm t5 t6 t7 => ?_) ws.length 0 (by omega)
  rw [insF_turn] at t7
  refine wx_seq (wx_seq ?_)
  have hsa : ∀ x ∈ insF (atV ws) ws.length, Small x := fun x hx => by
    obtain ⟨j, h1, rfl⟩ := (insF_mem _ x _).1 hx
    exact (hok _ (atV_mem h1)).small
  have hla : (insF (atV ws) ws.length).length ≤ 8 := by have := insF_length (atV ws) ws.length; omega
  have hca := insF_chain (atV ws) ws.length
  have hma : ∀ x ∈ ws, x ∈ insF (atV ws) ws.length := fun x hx => by
    obtain ⟨j, hj, rfl⟩ := List.mem_iff_getElem.1 hx
    exact (insF_mem _ _ _).2 ⟨j, hj, by simp [hj]⟩
  have h118 := K.sameVals (insF (atV ws) ws.length) (insF (atV ws) ws.length) (small_mk (by omega) hsa) (small_mk (by omega) hsa)
  have hself : cmpL (insF (atV ws) ws.length) (insF (atV ws) ws.length) = 0 := cmpL_refl _ (fun x _ => cmp_refl x)
  rw [hself] at h118
  generalize insF (atV ws) ws.length = a at *
  refine wx_region fun K hK => ?_
  simp only [evW, evX, evM, evN, evC, far, ↓reduceIte, Nat.reduceEqDiff, Nat.reduceAdd, Nat.reduceLeDiff, Nat.reduceSub, Nat.reduceLT, reduceCtorEq, not_true_eq_false, not_false_eq_true, Int.reduceEq, Int.reduceLT, Int.reduceLE, Int.reduceNeg, t6, t7, h118]
  refine hK _ _ ?_; clear hK K
  refine wx_cond false rfl (fun h => by cases h) (fun _ => wx_skip ?_)
  refine wx_seq (wx_seq ?_)
  refine wx_region fun K hK => ?_
  simp only [evW, evX, evM, evN, evC, far, ↓reduceIte, Nat.reduceEqDiff, Nat.reduceAdd, Nat.reduceLeDiff, Nat.reduceSub, Nat.reduceLT, reduceCtorEq, not_true_eq_false, not_false_eq_true, Int.reduceEq, Int.reduceLT, Int.reduceLE, Int.reduceNeg]
  refine hK _ _ ?_; clear hK K
  refine wx_block (wx_loop ?_)
  simp only [evH, evX, evN, ↓reduceIte, Nat.reduceEqDiff, Nat.reduceAdd, Nat.reduceLeDiff, Nat.reduceLT, Nat.reduceSub, reduceCtorEq, t5, t6]
  refine ss3_loop K hla hsa hca (fun tm t5 t6 => ?_) a.length 0 (by omega)
  refine wx_seq (wx_seq ?_)
  refine wx_region fun K hK => ?_
  simp only [evW, evX, evM, evN, evC, far, ↓reduceIte, Nat.reduceEqDiff, Nat.reduceAdd, Nat.reduceLeDiff, Nat.reduceSub, Nat.reduceLT, reduceCtorEq, not_true_eq_false, not_false_eq_true, Int.reduceEq, Int.reduceLT, Int.reduceLE, Int.reduceNeg]
  refine hK _ _ ?_; clear hK K
  refine wx_block (wx_loop ?_)
  simp only [evH, evX, evN, ↓reduceIte, Nat.reduceEqDiff, Nat.reduceAdd, Nat.reduceLeDiff, Nat.reduceLT, Nat.reduceSub, reduceCtorEq, t5, t6]
  refine ss4_loop K (by omega) hla hsa hca hma (fun tm => ?_) ws.length 0 (by omega)
  refine wx_seq (wx_region fun K hK => ?_)
  simp only [evW, evX, evM, evN, evC, far, ↓reduceIte, Nat.reduceEqDiff, Nat.reduceAdd, Nat.reduceLeDiff, Nat.reduceSub, Nat.reduceLT, reduceCtorEq, not_true_eq_false, not_false_eq_true, Int.reduceEq, Int.reduceLT, Int.reduceLE, Int.reduceNeg]
  refine hK _ _ ?_; clear hK K
  refine wx_ret ⟨.inr rfl, (.d (.b true), []), ?_, rfl⟩
  simp only [evR, evX, evC, evN, ↓reduceIte, Nat.reduceEqDiff, Nat.reduceAdd, Nat.reduceLeDiff, Nat.reduceLT, Nat.reduceSub, reduceCtorEq, far, c104]
end Ab

/-
  Values put into rows in their places, and found there.
-/
namespace Ab
open Go
set_option linter.unusedVariables false
set_option linter.unusedSimpArgs false
set_option maxRecDepth 100000
variable {E : Nat → Option Fn}

structure EnvOk (es : List Val) : Prop where
  len : es.length ≤ 3
  chain : chainB ltK es = true
  pos : ∀ x ∈ es, 0 < x.l.length

theorem envOk_nil : EnvOk [] := ⟨by simp, rfl, by simp⟩

theorem envOk_of {m : Nat} {x : Val} (h : GenOk m x) (hk : x.kind = 6) : EnvOk x.l := by
  have hm := h.may
  rw [mayV_eq] at hm
  simp only [Bool.and_eq_true] at hm
  have hr := hm.1.2
  rw [hk] at hr
  unfold rowOk at hr
  simp only [Int.reduceEq, if_false, if_true, Bool.and_eq_true, List.all_eq_true] at hr
  exact ⟨h.len, hr.2, fun y hy => by have := pair_len (hr.1 y hy); omega⟩

def lr1 : CCode := match c101.body with
  | .seq _ (.seq _ (.seq _ (.seq _ (.seq (.seq _ (.block _ (.loop _ c))) _)))) => c
  | _ => .skip
def lr2 : CCode := match c101.body with
  | .seq _ (.seq _ (.seq _ (.seq _ (.seq _ (.seq _ (.seq (.seq _ (.block _ (.loop _ c))) _)))))) => c
  | _ => .skip

set_option maxHeartbeats 1000000 in
theorem lr1_loop (K : ValOk E) {l : List (List UInt8)} (hl : l.length ≤ 10) {k : List UInt8} {Q : Ex → St → Prop}
    (hx : ∀ tm es, EnvOk es → look tm 1 = .d (.s k) → look tm 7 = .d (.l 4 (valRows es)) → Q (.exit 0) ⟨tm, []⟩) (hr : ∀ tm hp, look tm 4 = .d (.b true) → Q .ret ⟨tm, hp⟩) :
    ∀ (m i : Nat) (ws es : List Val), i + m = l.length → ws.length ≤ i → (∀ x ∈ ws, Small x) → chainB ltV ws = true → EnvOk es →
      LX E lr1 ⟨[0, 1, 6, 7, 8], [], [], [6, 7], [], true⟩ 0 ⟨[(0, .d (.l 1 (lotRows l))), (1, .d (.s k)), (6, .d (.l 4 (valRows ws))), (7, .d (.l 4 (valRows es))), (8, .d (.i .i64 i))], []⟩ Q := by
  intro m
  induction m with
  | zero =>
    intro i ws es hi hw hok hch he
    have hn : ¬ ((i : Int) < l.length) := by omega
    refine lx_step (wx_seq (wx_seq ?_))
    refine wx_region fun K hK => ?_
    simp only [evW, evX, evM, evN, evC, far, ↓reduceIte, Nat.reduceEqDiff, Nat.reduceAdd, Nat.reduceLeDiff, Nat.reduceSub, Nat.reduceLT, reduceCtorEq, not_true_eq_false, not_false_eq_true, Int.reduceEq, Int.reduceLT, Int.reduceLE, Int.reduceNeg, hn, lotRows_length]
    refine hK _ _ ?_; clear hK K
    refine wx_cond false rfl (fun h => by cases h) (fun _ => wx_exit ?_)
    exact hx _ es he rfl rfl
  | succ m ih =>
    intro i ws es hi hw hok hch he
    have hy : (i : Int) < l.length := by omega
    have la : i < l.length := by omega
    have h0 : (0 : Int) ≤ i := by omega
    have ga : (lotRows l)[i]? = some [.l 1 (byteRows l[i])] := by rw [lotRows_get, List.getElem?_eq_getElem la]; rfl
    have w : IntKind.i64.wrap ((i : Int) + 1) = ((i + 1 : Nat) : Int) := by rw [i64_in (by omega) (by omega)]; omega
    generalize l[i] = b at *
    refine lx_step (wx_seq (wx_seq ?_))
    refine wx_region fun K hK => ?_
    simp only [evW, evX, evM, evN, evC, far, ↓reduceIte, Nat.reduceEqDiff, Nat.reduceAdd, Nat.reduceLeDiff, Nat.reduceSub, Nat.reduceLT, reduceCtorEq, not_true_eq_false, not_false_eq_true, Int.reduceEq, Int.reduceLT, Int.reduceLE, Int.reduceNeg, hy, lotRows_length]
    refine hK _ _ ?_; clear hK K
    refine wx_cond true rfl (fun _ => wx_skip ?_) (fun h => by cases h)
    refine wx_seq (wx_block ?_)
    refine wx_seq (wx_seq ?_)
    by_cases hb : (20 : Int) < b.length
    · refine wx_region fun K hK => ?_
      simp only [evW, evX, evM, evN, evC, far, ↓reduceIte, Nat.reduceEqDiff, Nat.reduceAdd, Nat.reduceLeDiff, Nat.reduceSub, Nat.reduceLT, reduceCtorEq, not_true_eq_false, not_false_eq_true, Int.reduceEq, Int.reduceLT, Int.reduceLE, Int.reduceNeg, h0, Int.toNat_natCast, ga, byteRows_length, eq_true hb]
      refine hK _ _ ?_; clear hK K
      refine wx_cond true rfl (fun _ => ?_) (fun h => by cases h)
      refine wx_seq (wx_region fun K hK => ?_)
      simp only [evW, evX, evM, evN, evC, far, ↓reduceIte, Nat.reduceEqDiff, Nat.reduceAdd, Nat.reduceLeDiff, Nat.reduceSub, Nat.reduceLT, reduceCtorEq, not_true_eq_false, not_false_eq_true, Int.reduceEq, Int.reduceLT, Int.reduceLE, Int.reduceNeg]
      refine hK _ _ ?_; clear hK K
      refine wx_ret (hr _ _ ?_)
      simp only [evX, evN, ↓reduceIte, Nat.reduceEqDiff]
    refine wx_region fun K hK => ?_
    simp only [evW, evX, evM, evN, evC, far, ↓reduceIte, Nat.reduceEqDiff, Nat.reduceAdd, Nat.reduceLeDiff, Nat.reduceSub, Nat.reduceLT, reduceCtorEq, not_true_eq_false, not_false_eq_true, Int.reduceEq, Int.reduceLT, Int.reduceLE, Int.reduceNeg, h0, Int.toNat_natCast, ga, byteRows_length, hb]
    refine hK _ _ ?_; clear hK K
    refine wx_cond false rfl (fun h => by cases h) (fun _ => wx_skip ?_)
    have m1 := K.made b
    obtain ⟨x, n', c1, _, g1⟩ := K.gen b (by omega) 2 (by omega) 0 (by omega)
    have d2 : ((2 : Nat) : Int) = 2 := rfl
    rw [d2] at c1
    obtain ⟨r, hh, i1, i2⟩ := K.ins ws x (by omega) hok g1.small hch
    rw [settle_ids] at i2
    have i3 := K.refIns ws x (by omega) hok g1.small
    have hok' : ∀ y ∈ insV ws x, Small y := fun y hy => by
      rcases insV_mem hy with h | h
      · exact hok y h
      · rw [h]; exact g1.small
    have hlen := insV_length ws x
    have hsm : Small (.mk 0 0 [] (insV ws x)) := small_mk (by omega) hok'
    have h118 := K.sameVals _ _ hsm hsm
    have hself : cmpL (insV ws x) (insV ws x) = 0 := cmpL_refl _ (fun y _ => cmp_refl y)
    rw [hself] at h118
    have hch' := insV_chain (v := x) hch
    generalize insV ws x = ws' at *
    refine wx_seq (wx_region fun K hK => ?_)
    simp only [evW, evX, evM, evN, evC, far, ↓reduceIte, Nat.reduceEqDiff, Nat.reduceAdd, Nat.reduceLeDiff, Nat.reduceSub, Nat.reduceLT, reduceCtorEq, not_true_eq_false, not_false_eq_true, Int.reduceEq, Int.reduceLT, Int.reduceLE, Int.reduceNeg, h0, Int.toNat_natCast, ga, m1, c1, range_one]
    refine hK _ _ ?_; clear hK K
    refine wx_seq (wx_regionT fun K hK => ?_)
    simp only [evW, evX, evM, evN, evC, far, ↓reduceIte, Nat.reduceEqDiff, Nat.reduceAdd, Nat.reduceLeDiff, Nat.reduceSub, Nat.reduceLT, reduceCtorEq, not_true_eq_false, not_false_eq_true, Int.reduceEq, Int.reduceLT, Int.reduceLE, Int.reduceNeg, i1, i2, i3]
    refine hK _ _ (by rfl) ?_; clear hK K
    refine wx_seq (wx_seq ?_)
    refine wx_region fun K hK => ?_
    simp only [evW, evX, evM, evN, evC, far, ↓reduceIte, Nat.reduceEqDiff, Nat.reduceAdd, Nat.reduceLeDiff, Nat.reduceSub, Nat.reduceLT, reduceCtorEq, not_true_eq_false, not_false_eq_true, Int.reduceEq, Int.reduceLT, Int.reduceLE, Int.reduceNeg, h118]
    refine hK _ _ ?_; clear hK K
    refine wx_cond false rfl (fun h => by cases h) (fun _ => wx_skip ?_)
    refine wx_seq ?_
    by_cases hk : x.kind = 6
    · by_cases hl2 : (es.length : Int) < x.l.length
      · refine wx_region fun K hK => ?_
        simp only [evW, evX, evM, evN, evC, far, ↓reduceIte, Nat.reduceEqDiff, Nat.reduceAdd, Nat.reduceLeDiff, Nat.reduceSub, Nat.reduceLT, reduceCtorEq, not_true_eq_false, not_false_eq_true, Int.reduceEq, Int.reduceLT, Int.reduceLE, Int.reduceNeg, eq_true hk, eq_true hl2, valRows_length]
        refine hK _ _ ?_; clear hK K
        refine wx_cond true rfl (fun _ => ?_) (fun h => by cases h)
        refine wx_region fun K hK => ?_
        simp only [evW, evX, evM, evN, evC, far, ↓reduceIte, Nat.reduceEqDiff, Nat.reduceAdd, Nat.reduceLeDiff, Nat.reduceSub, Nat.reduceLT, reduceCtorEq, not_true_eq_false, not_false_eq_true, Int.reduceEq, Int.reduceLT, Int.reduceLE, Int.reduceNeg]
        refine hK _ _ ?_; clear hK K
        refine wx_region fun K hK => ?_
        simp only [evW, evX, evM, evN, evC, far, ↓reduceIte, Nat.reduceEqDiff, Nat.reduceAdd, Nat.reduceLeDiff, Nat.reduceSub, Nat.reduceLT, reduceCtorEq, not_true_eq_false, not_false_eq_true, Int.reduceEq, Int.reduceLT, Int.reduceLE, Int.reduceNeg, w]
        refine hK _ _ ?_; clear hK K
        refine ⟨_, ?_, ih (i + 1) ws' x.l (by omega) (by omega) hok' hch' (envOk_of g1 hk)⟩
        simp only [evH, evX, evN, ↓reduceIte, Nat.reduceEqDiff, Nat.reduceAdd, Nat.reduceLeDiff, Nat.reduceLT, Nat.reduceSub, reduceCtorEq]
      · refine wx_region fun K hK => ?_
        simp only [evW, evX, evM, evN, evC, far, ↓reduceIte, Nat.reduceEqDiff, Nat.reduceAdd, Nat.reduceLeDiff, Nat.reduceSub, Nat.reduceLT, reduceCtorEq, not_true_eq_false, not_false_eq_true, Int.reduceEq, Int.reduceLT, Int.reduceLE, Int.reduceNeg, eq_true hk, hl2, valRows_length]
        refine hK _ _ ?_; clear hK K
        refine wx_cond false rfl (fun h => by cases h) (fun _ => wx_skip ?_)
        refine wx_region fun K hK => ?_
        simp only [evW, evX, evM, evN, evC, far, ↓reduceIte, Nat.reduceEqDiff, Nat.reduceAdd, Nat.reduceLeDiff, Nat.reduceSub, Nat.reduceLT, reduceCtorEq, not_true_eq_false, not_false_eq_true, Int.reduceEq, Int.reduceLT, Int.reduceLE, Int.reduceNeg, w]
        refine hK _ _ ?_; clear hK K
        refine ⟨_, ?_, ih (i + 1) ws' es (by omega) (by omega) hok' hch' he⟩
        simp only [evH, evX, evN, ↓reduceIte, Nat.reduceEqDiff, Nat.reduceAdd, Nat.reduceLeDiff, Nat.reduceLT, Nat.reduceSub, reduceCtorEq]
    · refine wx_region fun K hK => ?_
      simp only [evW, evX, evM, evN, evC, far, ↓reduceIte, Nat.reduceEqDiff, Nat.reduceAdd, Nat.reduceLeDiff, Nat.reduceSub, Nat.reduceLT, reduceCtorEq, not_true_eq_false, not_false_eq_true, Int.reduceEq, Int.reduceLT, Int.reduceLE, Int.reduceNeg, hk]
      refine hK _ _ ?_; clear hK K
      refine wx_cond false rfl (fun h => by cases h) (fun _ => wx_skip ?_)
      refine wx_region fun K hK => ?_
      simp only [evW, evX, evM, evN, evC, far, ↓reduceIte, Nat.reduceEqDiff, Nat.reduceAdd, Nat.reduceLeDiff, Nat.reduceSub, Nat.reduceLT, reduceCtorEq, not_true_eq_false, not_false_eq_true, Int.reduceEq, Int.reduceLT, Int.reduceLE, Int.reduceNeg, w]
      refine hK _ _ ?_; clear hK K
      refine ⟨_, ?_, ih (i + 1) ws' es (by omega) (by omega) hok' hch' he⟩
      simp only [evH, evX, evN, ↓reduceIte, Nat.reduceEqDiff, Nat.reduceAdd, Nat.reduceLeDiff, Nat.reduceLT, Nat.reduceSub, reduceCtorEq]

set_option maxHeartbeats 1000000 in
theorem lr2_loop (K : ValOk E) {es : List Val} (he : EnvOk es) {ks : List (List UInt8)} (hks : ks.length ≤ 5) {Q : Ex → St → Prop} (hx : ∀ tm hp, Q (.exit 2) ⟨tm, hp⟩) :
    ∀ (m i : Nat), i + m = ks.length →
      LX E lr2 ⟨[7, 10, 11], [], [], [], [], true⟩ 1 ⟨[(7, .d (.l 4 (valRows es))), (10, .own 0 0 1 (ks.map fun k => [.s k])), (11, .d (.i .i64 i))], [some (.tok 0 1)]⟩ Q := by
  intro m
  induction m with
  | zero =>
    intro i hi
    have hn : ¬ ((i : Int) < ks.length) := by omega
    refine lx_step (wx_seq (wx_seq ?_))
    refine wx_region fun K hK => ?_
    simp only [evW, evX, evM, evN, evC, far, ↓reduceIte, Nat.reduceEqDiff, Nat.reduceAdd, Nat.reduceLeDiff, Nat.reduceSub, Nat.reduceLT, reduceCtorEq, not_true_eq_false, not_false_eq_true, Int.reduceEq, Int.reduceLT, Int.reduceLE, Int.reduceNeg, hn, List.length_map]
    refine hK _ _ ?_; clear hK K
    refine wx_cond false rfl (fun h => by cases h) (fun _ => wx_exit ?_)
    exact hx _ _
  | succ m ih =>
    intro i hi
    have hy : (i : Int) < ks.length := by omega
    have la : i < ks.length := by omega
    have h0 : (0 : Int) ≤ i := by omega
    have ga : (ks.map fun k => [D.s k])[i]? = some [.s ks[i]] := by rw [List.getElem?_map, List.getElem?_eq_getElem la]; rfl
    have w : IntKind.i64.wrap ((i : Int) + 1) = ((i + 1 : Nat) : Int) := by rw [i64_in (by omega) (by omega)]; omega
    have hlen := he.len
    have f1 := K.find es ks[i] (by omega) he.chain he.pos
    have f2 := K.refFind es ks[i] (by omega)
    generalize ks[i] = k at *
    refine lx_step (wx_seq (wx_seq ?_))
    refine wx_region fun K hK => ?_
    simp only [evW, evX, evM, evN, evC, far, ↓reduceIte, Nat.reduceEqDiff, Nat.reduceAdd, Nat.reduceLeDiff, Nat.reduceSub, Nat.reduceLT, reduceCtorEq, not_true_eq_false, not_false_eq_true, Int.reduceEq, Int.reduceLT, Int.reduceLE, Int.reduceNeg, hy, List.length_map]
    refine hK _ _ ?_; clear hK K
    refine wx_cond true rfl (fun _ => wx_skip ?_) (fun h => by cases h)
    refine wx_seq (wx_block ?_)
    refine wx_seq (wx_region fun K hK => ?_)
    simp only [evW, evX, evM, evN, evC, far, ↓reduceIte, Nat.reduceEqDiff, Nat.reduceAdd, Nat.reduceLeDiff, Nat.reduceSub, Nat.reduceLT, reduceCtorEq, not_true_eq_false, not_false_eq_true, Int.reduceEq, Int.reduceLT, Int.reduceLE, Int.reduceNeg, h0, Int.toNat_natCast, ga, f1]
    refine hK _ _ ?_; clear hK K
    refine wx_seq (wx_region fun K hK => ?_)
    simp only [evW, evX, evM, evN, evC, far, ↓reduceIte, Nat.reduceEqDiff, Nat.reduceAdd, Nat.reduceLeDiff, Nat.reduceSub, Nat.reduceLT, reduceCtorEq, not_true_eq_false, not_false_eq_true, Int.reduceEq, Int.reduceLT, Int.reduceLE, Int.reduceNeg, h0, Int.toNat_natCast, ga, f2]
    refine hK _ _ ?_; clear hK K
    refine wx_seq ?_
    refine wx_region fun K hK => ?_
    simp only [evW, evX, evM, evN, evC, far, ↓reduceIte, Nat.reduceEqDiff, Nat.reduceAdd, Nat.reduceLeDiff, Nat.reduceSub, Nat.reduceLT, reduceCtorEq, not_true_eq_false, not_false_eq_true, Int.reduceEq, Int.reduceLT, Int.reduceLE, Int.reduceNeg, not_true_eq_false]
    refine hK _ _ ?_; clear hK K
    refine wx_cond false rfl (fun h => by cases h) (fun _ => wx_skip ?_)
    refine wx_region fun K hK => ?_
    simp only [evW, evX, evM, evN, evC, far, ↓reduceIte, Nat.reduceEqDiff, Nat.reduceAdd, Nat.reduceLeDiff, Nat.reduceSub, Nat.reduceLT, reduceCtorEq, not_true_eq_false, not_false_eq_true, Int.reduceEq, Int.reduceLT, Int.reduceLE, Int.reduceNeg, w]
    refine hK _ _ ?_; clear hK K
    refine ⟨_, ?_, ih (i + 1) (by omega)⟩
    simp only [evH, evX, evN, ↓reduceIte, Nat.reduceEqDiff, Nat.reduceAdd, Nat.reduceLeDiff, Nat.reduceLT, Nat.reduceSub, reduceCtorEq]

set_option maxHeartbeats 1000000 in
theorem lrow_ok (h101 : E 101 = some (.code c101)) (K : ValOk E) (l : List (List UInt8)) (k : List UInt8) : ∃ h', lcall E 101 [.d (.l 1 (lotRows l)), .d (.s k)] [] = some (.d (.b true), h') := by
  have hb := K.begun
  refine (call_wxP h101 (R := fun x => x.1 = .d (.b true)) ?_).elim fun x hx => ⟨x.2, by rw [hx.1, ← hx.2]⟩
  refine wx_seq (wx_region fun K hK => ?_)
  simp only [evW, evX, evM, evN, evC, far, ↓reduceIte, Nat.reduceEqDiff, Nat.reduceAdd, Nat.reduceLeDiff, Nat.reduceSub, Nat.reduceLT, reduceCtorEq, not_true_eq_false, not_false_eq_true, Int.reduceEq, Int.reduceLT, Int.reduceLE, Int.reduceNeg]
  refine hK _ _ ?_; clear hK K
  refine wx_seq (wx_seq ?_)
  refine wx_region fun K hK => ?_
  simp only [evW, evX, evM, evN, evC, far, ↓reduceIte, Nat.reduceEqDiff, Nat.reduceAdd, Nat.reduceLeDiff, Nat.reduceSub, Nat.reduceLT, reduceCtorEq, not_true_eq_false, not_false_eq_true, Int.reduceEq, Int.reduceLT, Int.reduceLE, Int.reduceNeg, hb]
  refine hK _ _ ?_; clear hK K
  refine wx_cond false rfl (fun h => by cases h) (fun _ => wx_skip ?_)
  refine wx_seq (wx_seq ?_)
  by_cases hl : (10 : Int) < l.length
  · refine wx_region fun K hK => ?_
    simp only [evW, evX, evM, evN, evC, far, ↓reduceIte, Nat.reduceEqDiff, Nat.reduceAdd, Nat.reduceLeDiff, Nat.reduceSub, Nat.reduceLT, reduceCtorEq, not_true_eq_false, not_false_eq_true, Int.reduceEq, Int.reduceLT, Int.reduceLE, Int.reduceNeg, eq_true hl, lotRows_length]
    refine hK _ _ ?_; clear hK K
    refine wx_cond true rfl (fun _ => ?_) (fun h => by cases h)
    refine wx_seq (wx_region fun K hK => ?_)
    simp only [evW, evX, evM, evN, evC, far, ↓reduceIte, Nat.reduceEqDiff, Nat.reduceAdd, Nat.reduceLeDiff, Nat.reduceSub, Nat.reduceLT, reduceCtorEq, not_true_eq_false, not_false_eq_true, Int.reduceEq, Int.reduceLT, Int.reduceLE, Int.reduceNeg]
    refine hK _ _ ?_; clear hK K
    refine wx_ret ⟨.inr rfl, (.d (.b true), []), ?_, rfl⟩
    simp only [evR, evX, evC, evN, ↓reduceIte, Nat.reduceEqDiff, Nat.reduceAdd, Nat.reduceLeDiff, Nat.reduceLT, Nat.reduceSub, reduceCtorEq, far, c101]
  by_cases hk : (20 : Int) < k.length
  · refine wx_region fun K hK => ?_
    simp only [evW, evX, evM, evN, evC, far, ↓reduceIte, Nat.reduceEqDiff, Nat.reduceAdd, Nat.reduceLeDiff, Nat.reduceSub, Nat.reduceLT, reduceCtorEq, not_true_eq_false, not_false_eq_true, Int.reduceEq, Int.reduceLT, Int.reduceLE, Int.reduceNeg, hl, eq_true hk, lotRows_length]
    refine hK _ _ ?_; clear hK K
    refine wx_cond true rfl (fun _ => ?_) (fun h => by cases h)
    refine wx_seq (wx_region fun K hK => ?_)
    simp only [evW, evX, evM, evN, evC, far, ↓reduceIte, Nat.reduceEqDiff, Nat.reduceAdd, Nat.reduceLeDiff, Nat.reduceSub, Nat.reduceLT, reduceCtorEq, not_true_eq_false, not_false_eq_true, Int.reduceEq, Int.reduceLT, Int.reduceLE, Int.reduceNeg]
    refine hK _ _ ?_; clear hK K
    refine wx_ret ⟨.inr rfl, (.d (.b true), []), ?_, rfl⟩
    simp only [evR, evX, evC, evN, ↓reduceIte, Nat.reduceEqDiff, Nat.reduceAdd, Nat.reduceLeDiff, Nat.reduceLT, Nat.reduceSub, reduceCtorEq, far, c101]
  refine wx_region fun K hK => ?_
  simp only [evW, evX, evM, evN, evC, far, ↓reduceIte, Nat.reduceEqDiff, Nat.reduceAdd, Nat.reduceLeDiff, Nat.reduceSub, Nat.reduceLT, reduceCtorEq, not_true_eq_false, not_false_eq_true, Int.reduceEq, Int.reduceLT, Int.reduceLE, Int.reduceNeg, hl, hk, lotRows_length]
  refine hK _ _ ?_; clear hK K
  refine wx_cond false rfl (fun h => by cases h) (fun _ => wx_skip ?_)
  refine wx_seq (wx_region fun K hK => ?_)
  simp only [evW, evX, evM, evN, evC, far, ↓reduceIte, Nat.reduceEqDiff, Nat.reduceAdd, Nat.reduceLeDiff, Nat.reduceSub, Nat.reduceLT, reduceCtorEq, not_true_eq_false, not_false_eq_true, Int.reduceEq, Int.reduceLT, Int.reduceLE, Int.reduceNeg]
  refine hK _ _ ?_; clear hK K
  refine wx_seq (wx_seq ?_)
  refine wx_region fun K hK => ?_
  simp only [evW, evX, evM, evN, evC, far, ↓reduceIte, Nat.reduceEqDiff, Nat.reduceAdd, Nat.reduceLeDiff, Nat.reduceSub, Nat.reduceLT, reduceCtorEq, not_true_eq_false, not_false_eq_true, Int.reduceEq, Int.reduceLT, Int.reduceLE, Int.reduceNeg]
  refine hK _ _ ?_; clear hK K
  refine wx_block (wx_loop ?_)
  simp only [evH, evX, evN, ↓reduceIte, Nat.reduceEqDiff, Nat.reduceAdd, Nat.reduceLeDiff, Nat.reduceLT, Nat.reduceSub, reduceCtorEq]
  refine lr1_loop K (by omega) (fun tm es he t1 t7 => ?_) (fun tm hp t4 => ?_) l.length 0 [] [] (by omega) (by simp) (by simp) rfl envOk_nil
  · refine wx_seq (wx_region fun K hK => ?_)
    simp only [evW, evX, evM, evN, evC, far, ↓reduceIte, Nat.reduceEqDiff, Nat.reduceAdd, Nat.reduceLeDiff, Nat.reduceSub, Nat.reduceLT, reduceCtorEq, not_true_eq_false, not_false_eq_true, Int.reduceEq, Int.reduceLT, Int.reduceLE, Int.reduceNeg, t1]
    refine hK _ _ ?_; clear hK K
    refine wx_seq (wx_seq ?_)
    refine wx_region fun K hK => ?_
    simp only [evW, evX, evM, evN, evC, far, ↓reduceIte, Nat.reduceEqDiff, Nat.reduceAdd, Nat.reduceLeDiff, Nat.reduceSub, Nat.reduceLT, reduceCtorEq, not_true_eq_false, not_false_eq_true, Int.reduceEq, Int.reduceLT, Int.reduceLE, Int.reduceNeg]
    refine hK _ _ ?_; clear hK K
    refine wx_block (wx_loop ?_)
    simp only [evH, evX, evN, ↓reduceIte, Nat.reduceEqDiff, Nat.reduceAdd, Nat.reduceLeDiff, Nat.reduceLT, Nat.reduceSub, reduceCtorEq, t7]
    refine lr2_loop K he (ks := [k, [97], [98], [98, 98], []]) (by simp) (fun tm hp => ?_) 5 0 (by simp)
    refine wx_seq (wx_region fun K hK => ?_)
    simp only [evW, evX, evM, evN, evC, far, ↓reduceIte, Nat.reduceEqDiff, Nat.reduceAdd, Nat.reduceLeDiff, Nat.reduceSub, Nat.reduceLT, reduceCtorEq, not_true_eq_false, not_false_eq_true, Int.reduceEq, Int.reduceLT, Int.reduceLE, Int.reduceNeg]
    refine hK _ _ ?_; clear hK K
    refine wx_ret ⟨.inr rfl, (.d (.b true), []), ?_, rfl⟩
    simp only [evR, evX, evC, evN, ↓reduceIte, Nat.reduceEqDiff, Nat.reduceAdd, Nat.reduceLeDiff, Nat.reduceLT, Nat.reduceSub, reduceCtorEq, far, c101]
  · refine ⟨.inr rfl, (.d (.b true), []), ?_, rfl⟩
    simp only [evR, evX, evC, evN, ↓reduceIte, Nat.reduceEqDiff, Nat.reduceAdd, Nat.reduceLeDiff, Nat.reduceLT, Nat.reduceSub, reduceCtorEq, far, c101, t4]
end Ab
