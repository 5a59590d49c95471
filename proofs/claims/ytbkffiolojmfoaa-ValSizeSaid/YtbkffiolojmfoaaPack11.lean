/-
  A value of the caller's own: mine, Ins.
-/
import Derived.Test.YtbkffiolojmfoaaPack10
import Derived.Test.YtbkffiolojmfoaaPack6
set_option linter.unusedSimpArgs false
set_option linter.unusedVariables false
set_option linter.unusedSectionVars false
set_option linter.unnecessarySimpa false
namespace Ab
open Go
set_option linter.unusedVariables false
set_option linter.unusedSimpArgs false
set_option maxRecDepth 100000
variable {E : Nat → Option Fn}

def mineR (v : Val) : V × List (Option Obj) := (.agg [.d (.i .i64 v.kind), .d (.i .i64 v.i), .d (.s v.s), .arr 0 0 0 v.l.length], [some (.arr 0 4 ((valRows v.l).map ofDs))])

theorem clone_call (h146 : E 146 = some (.prim (cloneImpl 4 56))) (l : List Val) (hl : l.length ≤ 1000) : lcall E 146 [.d (.l 4 (valRows l))] [] = some (.arr 0 0 0 l.length, [some (.arr 0 4 ((valRows l).map ofDs))]) := by
  have r : roomy (valRows l).length 56 = true := roomy_in (by rw [valRows_length]; omega)
  rw [valRows_length] at r
  rw [lcall_prim h146]
  simp only [cloneImpl, valRows_length, r, and_self, if_true]

theorem toDs_ofDs : ∀ (ds : List D), V.toDs (ofDs ds) = some ds
  | [] => rfl
  | d :: ds => by
    have := toDs_ofDs ds
    unfold ofDs at *
    simp only [List.map_cons, V.toDs, V.toD, this]

theorem rowsD_ofDs : ∀ (rs : List (List D)), rowsD (rs.map ofDs) = some rs
  | [] => rfl
  | r :: rs => by simp only [List.map_cons, rowsD, toDs_ofDs, rowsD_ofDs rs]

theorem settle_mine (a b c : D) (l : List Val) : settle 0 (.agg [.d a, .d b, .d c, .arr 0 0 0 l.length]) [some (.arr 0 4 ((valRows l).map ofDs))] = some (.agg [.d a, .d b, .d c, .d (.l 4 (valRows l))], []) := by
  have h2 : (valRows l).take l.length = valRows l := by rw [← valRows_length, List.take_length]
  simp [settle, ansIds, arrIdsAll, V.arrIds, frzA, frzAll, frz1, rowsD_ofDs, V.refs, V.refsAll, reach, renObjs, V.ren, V.renAll, valRows_length, h2]

theorem renAll_data (f g : Nat → Nat) : ∀ (ds : List D), V.renAll f g (ofDs ds) = ofDs ds
  | [] => rfl
  | d :: ds => by
    have := renAll_data f g ds
    unfold ofDs at *
    simp only [List.map_cons, V.renAll, V.ren, this]

theorem renRows_data (f g : Nat → Nat) : ∀ (rs : List (List D)), renRows f g (rs.map ofDs) = rs.map ofDs
  | [] => rfl
  | r :: rs => by simp only [List.map_cons, renRows, renAll_data, renRows_data f g rs]

theorem underAll_data (n : Nat) : ∀ (ds : List D), V.underAll n (ofDs ds) = true
  | [] => rfl
  | d :: ds => by
    have := underAll_data n ds
    unfold ofDs at *
    simp only [List.map_cons, V.underAll, V.under, this, Bool.and_self]

theorem underRows_data (n : Nat) : ∀ (rs : List (List D)), underRows n (rs.map ofDs) = true
  | [] => rfl
  | r :: rs => by simp only [List.map_cons, underRows, underAll_data, underRows_data n rs, Bool.and_self]

theorem normRow_data (h : List (Option Obj)) : ∀ (ds : List D), (ofDs ds).map (normC h) = ofDs ds
  | [] => rfl
  | d :: ds => by
    have := normRow_data h ds
    unfold ofDs at *
    simp only [List.map_cons, normC, V.fine, if_true, this]

theorem normRows_data (h : List (Option Obj)) : ∀ (rs : List (List D)), (rs.map ofDs).map (fun r => r.map (normC h)) = rs.map ofDs
  | [] => rfl
  | r :: rs => by simp only [List.map_cons, normRow_data, normRows_data h rs]

theorem refsAll_data : ∀ (ds : List D), V.refsAll (ofDs ds) = []
  | [] => rfl
  | d :: ds => by
    have := refsAll_data ds
    unfold ofDs at *
    simp only [List.map_cons, V.refsAll, V.refs, this, List.append_nil]

theorem refsRows_data : ∀ (rs : List (List D)), refsRows (rs.map ofDs) = []
  | [] => rfl
  | r :: rs => by simp only [List.map_cons, refsRows, refsAll_data, refsRows_data rs, List.append_nil]

theorem range_one (a : Nat) : List.range' a 1 = [a] := rfl

def mineLoop : CCode := match c132.body with
  | .seq _ (.seq _ (.seq (.seq _ (.block _ (.loop _ c))) _)) => c
  | _ => .skip

theorem mine_loop {v : Val} (hl : v.l.length ≤ 1000) (hm : ∀ x ∈ v.l, lcall E 132 [x.arg] [] = some (mineR x)) {Q : Ex → St → Prop}
    (hx : ∀ tm, look tm 1 = .ptr 0 0 → look tm 2 = .ptr 1 0 → look tm 3 = .arr 2 0 0 v.l.length → Q (.exit 0) ⟨tm, [vbox v, zbox, some (.arr 0 4 ((valRows v.l).map ofDs)), none, none, none]⟩) :
    ∀ (m i : Nat), i + m = v.l.length →
      LX E mineLoop ⟨[1, 2, 3, 9, 10, 11], [], [], [], [], true⟩ 6 ⟨[(1, .ptr 0 0), (2, .ptr 1 0), (3, .arr 2 0 0 v.l.length), (9, .arr 2 0 0 v.l.length), (10, .d (.i .i64 v.l.length)), (11, .d (.i .i64 i))], [vbox v, zbox, some (.arr 0 4 ((valRows v.l).map ofDs)), none, none, none]⟩ Q := by
  intro m
  induction m with
  | zero =>
    intro i hi
    have hn : ¬ ((i : Int) < v.l.length) := by omega
    refine lx_step (wx_seq ?_)
    refine wx_region fun K hK => ?_
    simp only [evW, evX, evM, evN, evC, far, ↓reduceIte, Nat.reduceEqDiff, Nat.reduceAdd, Nat.reduceLeDiff, Nat.reduceSub, Nat.reduceLT, reduceCtorEq, not_true_eq_false, not_false_eq_true, Int.reduceEq, Int.reduceLT, Int.reduceLE, Int.reduceNeg, hn]
    refine hK _ _ ?_; clear hK K
    refine wx_seq (wx_cond false rfl (fun h => by cases h) (fun _ => wx_exit ?_))
    exact hx _ rfl rfl rfl
  | succ m ih =>
    intro i hi
    have hy : (i : Int) < v.l.length := by omega
    have la : i < v.l.length := by omega
    have h0 : (0 : Int) ≤ i := by omega
    have hr : ∀ x : Val, ofDs (Val.row x) = [.d (.i .i64 x.kind), .d (.i .i64 x.i), .d (.s x.s), .d (.l 4 (valRows x.l))] := fun x => by rw [row_eq]; rfl
    have ga : ((valRows v.l).map ofDs)[i]? = some [.d (.i .i64 v.l[i].kind), .d (.i .i64 v.l[i].i), .d (.s v.l[i].s), .d (.l 4 (valRows v.l[i].l))] := by rw [List.getElem?_map, valRows_get, List.getElem?_eq_getElem la, ← hr]; rfl
    have hcall := hm v.l[i] (List.getElem_mem la)
    have hset : ((valRows v.l).map ofDs).set i [.d (.i .i64 v.l[i].kind), .d (.i .i64 v.l[i].i), .d (.s v.l[i].s), .d (.l 4 (valRows v.l[i].l))] = (valRows v.l).map ofDs := by
      apply List.ext_getElem?
      intro j
      rw [List.getElem?_set]
      split
      · rename_i e; subst e; rw [ga, if_pos]; simpa [valRows_length] using la
      · rfl
    have w : IntKind.i64.wrap ((i : Int) + 1) = ((i + 1 : Nat) : Int) := by rw [i64_in (by omega) (by omega)]; omega
    generalize v.l[i] = x at *
    refine lx_step (wx_seq ?_)
    refine wx_region fun K hK => ?_
    simp only [evW, evX, evM, evN, evC, far, ↓reduceIte, Nat.reduceEqDiff, Nat.reduceAdd, Nat.reduceLeDiff, Nat.reduceSub, Nat.reduceLT, reduceCtorEq, not_true_eq_false, not_false_eq_true, Int.reduceEq, Int.reduceLT, Int.reduceLE, Int.reduceNeg, hy]
    refine hK _ _ ?_; clear hK K
    refine wx_seq (wx_cond true rfl (fun _ => wx_skip ?_) (fun h => by cases h))
    refine wx_seq (wx_block ?_)
    refine wx_seq (wx_region fun K hK => ?_)
    simp only [evW, evX, evM, evN, evC, far, ↓reduceIte, Nat.reduceEqDiff, Nat.reduceAdd, Nat.reduceLeDiff, Nat.reduceSub, Nat.reduceLT, reduceCtorEq, not_true_eq_false, not_false_eq_true, Int.reduceEq, Int.reduceLT, Int.reduceLE, Int.reduceNeg, hy, h0, Int.toNat_natCast, ga]
    refine hK _ _ ?_; clear hK K
    have hst : ∀ hp, stA 4 2 0 i 0 hp (some [.d (.i .i64 x.kind), .d (.i .i64 x.i), .d (.s x.s), .d (.l 4 (valRows x.l))]) (some (.arr 0 4 ((valRows v.l).map ofDs))) = some (hp.set 2 (some (.arr 0 4 ((valRows v.l).map ofDs)))) := fun hp => by
      simp [stA, ga, over, hset]
    refine wx_region fun K hK => ?_
    simp only [evW, evX, evM, evN, evC, far, ↓reduceIte, Nat.reduceEqDiff, Nat.reduceAdd, Nat.reduceLeDiff, Nat.reduceSub, Nat.reduceLT, reduceCtorEq, not_true_eq_false, not_false_eq_true, Int.reduceEq, Int.reduceLT, Int.reduceLE, Int.reduceNeg, hcall, mineR, settle_mine, hy, h0, Int.toNat_natCast, ga, hst]
    refine hK _ _ ?_; clear hK K
    refine wx_region fun K hK => ?_
    simp only [evW, evX, evM, evN, evC, far, ↓reduceIte, Nat.reduceEqDiff, Nat.reduceAdd, Nat.reduceLeDiff, Nat.reduceSub, Nat.reduceLT, reduceCtorEq, not_true_eq_false, not_false_eq_true, Int.reduceEq, Int.reduceLT, Int.reduceLE, Int.reduceNeg, w]
    refine hK _ _ ?_; clear hK K
    refine ⟨_, ?_, ih (i + 1) (by omega)⟩
    simp only [evH, evX, evN, ↓reduceIte, Nat.reduceEqDiff, Nat.reduceAdd, Nat.reduceLeDiff, Nat.reduceLT, Nat.reduceSub, reduceCtorEq, underRows_data, normRows_data]

theorem mine_ok (h132 : E 132 = some (.code c132)) (h146 : E 146 = some (.prim (cloneImpl 4 56))) {v : Val} (h : Small v) : lcall E 132 [v.arg] [] = some (mineR v) := by
  induction h with
  | mk hl hs ih =>
    rename_i v
    have hc := clone_call h146 v.l hl
    refine call_wx h132 ?_
    refine wx_seq (wx_region fun K hK => ?_)
    simp only [evW, evX, evM, evN, evC, far, ↓reduceIte, Nat.reduceEqDiff, Nat.reduceAdd, Nat.reduceLeDiff, Nat.reduceSub, Nat.reduceLT, reduceCtorEq, not_true_eq_false, not_false_eq_true, Int.reduceEq, Int.reduceLT, Int.reduceLE, Int.reduceNeg]
    refine hK _ _ ?_; clear hK K
    refine wx_seq (wx_region fun K hK => ?_)
    simp only [evW, evX, evM, evN, evC, far, ↓reduceIte, Nat.reduceEqDiff, Nat.reduceAdd, Nat.reduceLeDiff, Nat.reduceSub, Nat.reduceLT, reduceCtorEq, not_true_eq_false, not_false_eq_true, Int.reduceEq, Int.reduceLT, Int.reduceLE, Int.reduceNeg, hc, renRows_data, range_one]
    refine hK _ _ ?_; clear hK K
    refine wx_seq (wx_seq ?_)
    refine wx_region fun K hK => ?_
    simp only [evW, evX, evM, evN, evC, far, ↓reduceIte, Nat.reduceEqDiff, Nat.reduceAdd, Nat.reduceLeDiff, Nat.reduceSub, Nat.reduceLT, reduceCtorEq, not_true_eq_false, not_false_eq_true, Int.reduceEq, Int.reduceLT, Int.reduceLE, Int.reduceNeg]
    refine hK _ _ ?_; clear hK K
    refine wx_block (wx_loop ?_)
    simp only [evH, evX, evN, ↓reduceIte, Nat.reduceEqDiff, Nat.reduceAdd, Nat.reduceLeDiff, Nat.reduceLT, Nat.reduceSub, reduceCtorEq, underRows_data, normRows_data]
    refine mine_loop hl ih (fun tm t1 t2 t3 => ?_) v.l.length 0 (by omega)
    refine wx_seq (wx_region fun K hK => ?_)
    simp only [evW, evX, evM, evN, evC, far, ↓reduceIte, Nat.reduceEqDiff, Nat.reduceAdd, Nat.reduceLeDiff, Nat.reduceSub, Nat.reduceLT, reduceCtorEq, not_true_eq_false, not_false_eq_true, Int.reduceEq, Int.reduceLT, Int.reduceLE, Int.reduceNeg, t1, t2, t3]
    refine hK _ _ ?_; clear hK K
    refine wx_seq (wx_region fun K hK => ?_)
    simp only [evW, evX, evM, evN, evC, far, ↓reduceIte, Nat.reduceEqDiff, Nat.reduceAdd, Nat.reduceLeDiff, Nat.reduceSub, Nat.reduceLT, reduceCtorEq, not_true_eq_false, not_false_eq_true, Int.reduceEq, Int.reduceLT, Int.reduceLE, Int.reduceNeg, t1, t2, t3]
    refine hK _ _ ?_; clear hK K
    refine wx_ret ⟨.inr rfl, ?_⟩
    simp only [evR, evX, evC, evN, ↓reduceIte, Nat.reduceEqDiff, Nat.reduceAdd, Nat.reduceLeDiff, Nat.reduceLT, Nat.reduceSub, reduceCtorEq, far, c132, t1, t2, t3, mineR, renRows_data, refsRows_data]
end Ab

/-
  Ins: a row with one more.
-/
namespace Ab
open Go
set_option linter.unusedVariables false
set_option linter.unusedSimpArgs false
set_option maxRecDepth 100000
variable {E : Nat → Option Fn}

theorem settle_row (l : List Val) : settle 0 (.arr 0 0 0 l.length) [some (.arr 0 4 ((valRows l).map ofDs))] = some (.d (.l 4 (valRows l)), []) := by
  have h2 : (valRows l).take l.length = valRows l := by rw [← valRows_length, List.take_length]
  simp [settle, ansIds, V.arrIds, frzA, frz1, rowsD_ofDs, V.refs, reach, renObjs, V.ren, valRows_length, h2]

theorem insert_call (h134 : E 134 = some (.prim insImpl)) (l : List Val) (v : Val) (i : Nat) (hi : i ≤ l.length) (hl : l.length ≤ 1000) :
    lcall E 134 [.arr 0 0 0 l.length, .d (.i .i64 i), .d (.l 4 [v.row])] [some (.arr 0 4 ((valRows l).map ofDs))] = some (.d (.l 4 (valRows (l.take i ++ v :: l.drop i))), [some (.arr 1 4 [])]) := by
  have e : insRows (valRows l) i v.row = valRows (l.take i ++ v :: l.drop i) := by simp [insRows, valRows_append, valRows_take, valRows_drop, valRows]
  rw [lcall_prim h134]
  simp only [insImpl, rowsD_ofDs]
  rw [if_pos ⟨trivial, by simp [valRows_length], by omega, by omega, by omega⟩]
  simp only [Int.toNat_natCast, e]

theorem ins116_ok (h116 : E 116 = some (.code c116)) (h133 : E 133 = some (.code c133)) (h147 : E 147 = some (.code c147)) (h134 : E 134 = some (.prim insImpl)) (hmine : ∀ v, Small v → lcall E 132 [v.arg] [] = some (mineR v))
    (hcmp : ∀ (a b : Val), Small a → Small b → lcall E 114 [a.arg, b.arg] [] = some (.d (.i .i64 (cmpV a b)), [])) {l : List Val} (hl : l.length ≤ 1000) (hs : ∀ x ∈ l, Small x) {v : Val} (hv : Small v) (hch : chainB ltV l = true) :
    ∃ r h, lcall E 116 [.d (.l 4 (valRows l)), v.arg] [] = some (r, h) ∧ settle 0 r h = some (.d (.l 4 (valRows (insV l v))), []) := by
  have hm := hmine (.mk 0 0 [] l) (small_mk hl hs)
  have hp := place133_ok h133 h147 hl (t := v) (f := 114) (c := fun x => cmpV x v) (fun x hx => hcmp x v (hs x hx) hv) (part_cmp v hch)
  have hv2 := hmine v hv
  have hle := posV_le v l
  simp only [Val.arg, Val.kind, Val.i, Val.s, Val.l, mineR] at hm
  refine (call_wxP h116 (R := fun x => settle 0 x.1 x.2 = some (.d (.l 4 (valRows (insV l v))), [])) ?_).elim fun x hx => ⟨x.1, x.2, hx.1, hx.2⟩
  refine wx_seq (wx_region fun K hK => ?_)
  simp only [evW, evX, evM, evN, evC, far, ↓reduceIte, Nat.reduceEqDiff, Nat.reduceAdd, Nat.reduceLeDiff, Nat.reduceSub, Nat.reduceLT, reduceCtorEq, not_true_eq_false, not_false_eq_true, Int.reduceEq, Int.reduceLT, Int.reduceLE, Int.reduceNeg]
  refine hK _ _ ?_; clear hK K
  refine wx_seq (wx_region fun K hK => ?_)
  simp only [evW, evX, evM, evN, evC, far, ↓reduceIte, Nat.reduceEqDiff, Nat.reduceAdd, Nat.reduceLeDiff, Nat.reduceSub, Nat.reduceLT, reduceCtorEq, not_true_eq_false, not_false_eq_true, Int.reduceEq, Int.reduceLT, Int.reduceLE, Int.reduceNeg, hm, renRows_data, range_one]
  refine hK _ _ ?_; clear hK K
  refine wx_seq (wx_region fun K hK => ?_)
  simp only [evW, evX, evM, evN, evC, far, ↓reduceIte, Nat.reduceEqDiff, Nat.reduceAdd, Nat.reduceLeDiff, Nat.reduceSub, Nat.reduceLT, reduceCtorEq, not_true_eq_false, not_false_eq_true, Int.reduceEq, Int.reduceLT, Int.reduceLE, Int.reduceNeg, hp, renRows_data, range_one]
  refine hK _ _ ?_; clear hK K
  refine wx_seq (wx_seq ?_)
  refine wx_region fun K hK => ?_
  simp only [evW, evX, evM, evN, evC, far, ↓reduceIte, Nat.reduceEqDiff, Nat.reduceAdd, Nat.reduceLeDiff, Nat.reduceSub, Nat.reduceLT, reduceCtorEq, not_true_eq_false, not_false_eq_true, Int.reduceEq, Int.reduceLT, Int.reduceLE, Int.reduceNeg]
  refine hK _ _ ?_; clear hK K
  have hins := insert_call h134 l v (posV v l) hle hl
  have hrow := row_eq v
  cases hh : hasP l (fun x => cmpV x v) (posV v l) with
  | true =>
    have e : insV l v = l := by
      unfold hasP at hh
      unfold insV
      split at hh
      · rename_i x hx
        rw [hx]
        exact if_pos (of_decide_eq_true hh)
      · cases hh
    rw [e]
    refine wx_cond true rfl (fun _ => ?_) (fun h => by cases h)
    refine wx_seq (wx_region fun K hK => ?_)
    simp only [evW, evX, evM, evN, evC, far, ↓reduceIte, Nat.reduceEqDiff, Nat.reduceAdd, Nat.reduceLeDiff, Nat.reduceSub, Nat.reduceLT, reduceCtorEq, not_true_eq_false, not_false_eq_true, Int.reduceEq, Int.reduceLT, Int.reduceLE, Int.reduceNeg]
    refine hK _ _ ?_; clear hK K
    refine wx_ret ⟨.inr rfl, (.arr 0 0 0 l.length, [some (.arr 0 4 ((valRows l).map ofDs))]), ?_, settle_row l⟩
    simp only [evR, evX, evC, evN, ↓reduceIte, Nat.reduceEqDiff, Nat.reduceAdd, Nat.reduceLeDiff, Nat.reduceLT, Nat.reduceSub, reduceCtorEq, far, c116, renRows_data, refsRows_data]
  | false =>
    have e : insV l v = l.take (posV v l) ++ v :: l.drop (posV v l) := by
      unfold hasP at hh
      unfold insV
      split at hh
      · rename_i x hx
        rw [hx]
        simp [of_decide_eq_false hh]
      · rename_i hx
        rw [hx]
        simp
    rw [e]
    rw [hrow] at hins
    refine wx_cond false rfl (fun h => by cases h) (fun _ => wx_skip ?_)
    have hm2 : lcall E 132 [v.arg] [] = some (.agg [.d (.i .i64 v.kind), .d (.i .i64 v.i), .d (.s v.s), .arr 0 0 0 v.l.length], [some (.arr 0 4 ((valRows v.l).map ofDs))]) := hv2
    refine wx_seq (wx_region fun K hK => ?_)
    simp only [evW, evX, evM, evN, evC, far, ↓reduceIte, Nat.reduceEqDiff, Nat.reduceAdd, Nat.reduceLeDiff, Nat.reduceSub, Nat.reduceLT, reduceCtorEq, not_true_eq_false, not_false_eq_true, Int.reduceEq, Int.reduceLT, Int.reduceLE, Int.reduceNeg, hm2, settle_mine, hins, renRows_data, refsRows_data, range_one]
    refine hK _ _ ?_; clear hK K
    refine wx_ret ⟨.inr rfl, (.d (.l 4 (valRows (l.take (posV v l) ++ v :: l.drop (posV v l)))), []), ?_, by simp [settle, ansIds, V.arrIds]⟩
    simp only [evR, evX, evC, evN, ↓reduceIte, Nat.reduceEqDiff, Nat.reduceAdd, Nat.reduceLeDiff, Nat.reduceLT, Nat.reduceSub, reduceCtorEq, far, c116, renRows_data, refsRows_data]
end Ab

/-
  What is asked ahead of all laws.
-/
namespace Ab
open Go
set_option linter.unusedVariables false
set_option linter.unusedSimpArgs false
set_option maxRecDepth 100000
variable {E : Nat → Option Fn}

def InsOk (E : Nat → Option Fn) : Prop := ∀ (l : List Val) (v : Val), l.length ≤ 1000 → (∀ x ∈ l, Small x) → Small v → chainB ltV l = true →
    ∃ r h, lcall E 116 [.d (.l 4 (valRows l)), v.arg] [] = some (r, h) ∧ settle 0 r h = some (.d (.l 4 (valRows (insV l v))), [])
def FindOk (E : Nat → Option Fn) : Prop := ∀ (l : List Val) (k : List UInt8), l.length ≤ 1000 → chainB ltK l = true → (∀ x ∈ l, 0 < x.l.length) →
    lcall E 119 [.d (.l 4 (valRows l)), .d (.s k)] [] = some (.tup [.d (.i .i64 (posK k l : Nat)), .d (.b (hasK k l))], [])

def bA : Val := .mk 1 3 [] []
def bB : Val := .mk 1 5 [] []
def bZ : Val := .mk 0 0 [] []
def bK : Val := .mk 4 0 [] [.mk 3 0 [107] [], bA]

theorem small_nil (k i : Int) (s : List UInt8) : Small (.mk k i s []) := small_mk (by simp) (by simp)

theorem begun_ok (h106 : E 106 = some (.code c106)) (hins : InsOk E) (hfind : FindOk E) (hsize : ∀ v, Small v → lcall E 112 [v.arg] [] = some (.d (.i .i64 (sizeV v)), [])) (hmay : ∀ v, Small v → lcall E 111 [v.arg] [] = some (.d (.b (decide (sizeV v ≤ 60) && mayV v)), []))
    (hcmp : ∀ (a b : Val), Small a → Small b → lcall E 114 [a.arg, b.arg] [] = some (.d (.i .i64 (cmpV a b)), [])) : lcall E 106 [] [] = some (.d (.b true), []) := by
  have sA : Small bA := small_nil _ _ _
  have sB : Small bB := small_nil _ _ _
  have sZ : Small bZ := small_nil _ _ _
  obtain ⟨r, hh, i1, i2⟩ := hins [bB] bA (by simp) (by simp [sB]) sA rfl
  rw [settle_ids] at i2
  have f1 := hfind [bK] [107] (by simp) rfl (by simp [bK, Val.l])
  have f2 := hfind [bK] [97] (by simp) rfl (by simp [bK, Val.l])
  have m1 := hmay bA sA
  have m2 := hmay bZ sZ
  have z1 := hsize bA sA
  have c1 := hcmp bA bB sA sB
  have e1 : insV [bB] bA = [bA, bB] := rfl
  have e2 : posK [107] [bK] = 0 := rfl
  have e3 : hasK [107] [bK] = true := rfl
  have e4 : posK [97] [bK] = 0 := rfl
  have e5 : hasK [97] [bK] = false := rfl
  have e6 : sizeV bA = 1 := by decide
  have e7 : (decide (sizeV bA ≤ 60) && mayV bA) = true := by decide
  have e8 : (decide (sizeV bZ ≤ 60) && mayV bZ) = false := by decide
  have e9 : cmpV bA bB = -1 := by decide
  rw [e7] at m1
  rw [e8] at m2
  rw [e6] at z1
  rw [e9] at c1
  rw [e1] at i2
  rw [e2, e3] at f1
  rw [e4, e5] at f2
  simp only [bA, bB, bZ, bK, Val.arg, Val.kind, Val.i, Val.s, Val.l, valRows, Val.row, Bool.and_true, Bool.and_false] at i1 i2 f1 f2 m1 m2 z1 c1
  rw [show ((0 : Nat) : Int) = 0 from rfl] at f1 f2
  have n2 : ((2 : Nat) : Int) = 2 := rfl
  refine call_wx h106 ?_
  refine wx_seq (wx_region fun K hK => ?_)
  simp only [evW, evX, evM, evN, evC, far, ↓reduceIte, Nat.reduceEqDiff, Nat.reduceAdd, Nat.reduceLeDiff, Nat.reduceSub, Nat.reduceLT, reduceCtorEq, not_true_eq_false, not_false_eq_true, Int.reduceEq, Int.reduceLT, Int.reduceLE, Int.reduceNeg]
  refine hK _ _ ?_; clear hK K
  refine wx_seq (wx_region fun K hK => ?_)
  simp only [evW, evX, evM, evN, evC, far, ↓reduceIte, Nat.reduceEqDiff, Nat.reduceAdd, Nat.reduceLeDiff, Nat.reduceSub, Nat.reduceLT, reduceCtorEq, not_true_eq_false, not_false_eq_true, Int.reduceEq, Int.reduceLT, Int.reduceLE, Int.reduceNeg]
  refine hK _ _ ?_; clear hK K
  refine wx_seq (wx_region fun K hK => ?_)
  simp only [evW, evX, evM, evN, evC, far, ↓reduceIte, Nat.reduceEqDiff, Nat.reduceAdd, Nat.reduceLeDiff, Nat.reduceSub, Nat.reduceLT, reduceCtorEq, not_true_eq_false, not_false_eq_true, Int.reduceEq, Int.reduceLT, Int.reduceLE, Int.reduceNeg, i1, i2]
  refine hK _ _ ?_; clear hK K
  refine wx_seq (wx_region fun K hK => ?_)
  simp only [evW, evX, evM, evN, evC, far, ↓reduceIte, Nat.reduceEqDiff, Nat.reduceAdd, Nat.reduceLeDiff, Nat.reduceSub, Nat.reduceLT, reduceCtorEq, not_true_eq_false, not_false_eq_true, Int.reduceEq, Int.reduceLT, Int.reduceLE, Int.reduceNeg]
  refine hK _ _ ?_; clear hK K
  refine wx_seq (wx_region fun K hK => ?_)
  simp only [evW, evX, evM, evN, evC, far, ↓reduceIte, Nat.reduceEqDiff, Nat.reduceAdd, Nat.reduceLeDiff, Nat.reduceSub, Nat.reduceLT, reduceCtorEq, not_true_eq_false, not_false_eq_true, Int.reduceEq, Int.reduceLT, Int.reduceLE, Int.reduceNeg, f1]
  refine hK _ _ ?_; clear hK K
  refine wx_seq (wx_region fun K hK => ?_)
  simp only [evW, evX, evM, evN, evC, far, ↓reduceIte, Nat.reduceEqDiff, Nat.reduceAdd, Nat.reduceLeDiff, Nat.reduceSub, Nat.reduceLT, reduceCtorEq, not_true_eq_false, not_false_eq_true, Int.reduceEq, Int.reduceLT, Int.reduceLE, Int.reduceNeg, f2]
  refine hK _ _ ?_; clear hK K
  refine wx_seq (wx_region fun K hK => ?_)
  simp only [evW, evX, evM, evN, evC, far, ↓reduceIte, Nat.reduceEqDiff, Nat.reduceAdd, Nat.reduceLeDiff, Nat.reduceSub, Nat.reduceLT, reduceCtorEq, not_true_eq_false, not_false_eq_true, Int.reduceEq, Int.reduceLT, Int.reduceLE, Int.reduceNeg, m1, m2, z1, c1, n2, List.length_cons, List.length_nil, Int.reduceToNat, List.getElem?_cons_zero, Int.toNat_zero, Int.le_refl]
  refine hK _ _ ?_; clear hK K
  refine wx_ret ⟨.inr rfl, ?_⟩
  simp only [evR, evX, evC, evN, ↓reduceIte, Nat.reduceEqDiff, Nat.reduceAdd, Nat.reduceLeDiff, Nat.reduceLT, Nat.reduceSub, reduceCtorEq, far, c106]
end Ab

/-
  What the functions that the laws of values call come to; the order of values.
-/
namespace Ab
open Go
set_option linter.unusedVariables false
set_option linter.unusedSimpArgs false
set_option maxRecDepth 100000
variable {E : Nat → Option Fn}

structure ValOk (E : Nat → Option Fn) : Prop where
  begun : lcall E 106 [] [] = some (.d (.b true), [])
  made : ∀ l, lcall E 108 [.d (.l 1 (byteRows l))] [] = some (.ptr 0 0, [pbox l 0])
  gen : ∀ (l : List UInt8), l.length ≤ 1000 → ∀ deep : Nat, deep ≤ 100 → GenC E l deep
  refMay : ∀ (v : Val), Small v → Fit v → lcall E 110 [v.arg] [] = some (.d (.b (mayR v)), [])
  may : ∀ v, Small v → lcall E 111 [v.arg] [] = some (.d (.b (decide (sizeV v ≤ 60) && mayV v)), [])
  size : ∀ v, Small v → lcall E 112 [v.arg] [] = some (.d (.i .i64 (sizeV v)), [])
  refSize : ∀ v, Small v → lcall E 113 [v.arg] [] = some (.d (.i .i64 (sizeV v)), [])
  cmp : ∀ (a b : Val), Small a → Small b → lcall E 114 [a.arg, b.arg] [] = some (.d (.i .i64 (cmpV a b)), [])
  refCmp : ∀ (a b : Val), Small a → Small b → lcall E 115 [a.arg, b.arg] [] = some (.d (.i .i64 (cmpV a b)), [])
  ins : InsOk E
  refIns : ∀ (l : List Val) (v : Val), l.length ≤ 1000 → (∀ x ∈ l, Small x) → Small v → lcall E 117 [.d (.l 4 (valRows l)), v.arg] [] = some (.d (.l 4 (valRows (insV l v))), [])
  sameVals : ∀ (a b : List Val), Small (.mk 0 0 [] a) → Small (.mk 0 0 [] b) → lcall E 118 [.d (.l 4 (valRows a)), .d (.l 4 (valRows b))] [] = some (.d (.b (decide (cmpL a b = 0))), [])
  find : FindOk E
  refFind : ∀ (l : List Val) (k : List UInt8), l.length ≤ 1000 → lcall E 120 [.d (.l 4 (valRows l)), .d (.s k)] [] = some (.tup [.d (.i .i64 (posK k l : Nat)), .d (.b (hasK k l))], [])
  same : ∀ (a b : Val), Small a → Small b → lcall E 121 [a.arg, b.arg] [] = some (.d (.b (decide (cmpV a b = 0))), [])

/-- three values: how each two stand. -/
theorem three (a b c : Val) : (cmpV b a = - cmpV a b ∧ cmpV a a = 0) ∧
    ((cmpV a b = -1 ∧ cmpV b c = -1 ∧ cmpV a c = -1) ∨ (cmpV a b = -1 ∧ cmpV b c = 0 ∧ cmpV a c = -1) ∨ (cmpV a b = -1 ∧ cmpV b c = 1 ∧ (cmpV a c = -1 ∨ cmpV a c = 0 ∨ cmpV a c = 1)) ∨
     (cmpV a b = 0 ∧ cmpV b c = -1 ∧ cmpV a c = -1) ∨ (cmpV a b = 0 ∧ cmpV b c = 0 ∧ cmpV a c = 0) ∨ (cmpV a b = 0 ∧ cmpV b c = 1 ∧ cmpV a c = 1) ∨
     (cmpV a b = 1 ∧ (cmpV b c = -1 ∨ cmpV b c = 0 ∨ cmpV b c = 1) ∧ (cmpV a c = -1 ∨ cmpV a c = 0 ∨ cmpV a c = 1))) := by
  refine ⟨⟨cmp_neg a b, cmp_refl a⟩, ?_⟩
  rcases cmp_range a b with h1 | h1 | h1
  · rcases cmp_range b c with h2 | h2 | h2
    · have h3 := cmp_trans a b c (by omega) (by omega)
      have h4 : cmpV a c = -1 := by rcases cmp_range a c with h | h | h <;> omega
      exact .inl ⟨h1, h2, h4⟩
    · have := cmp_zero b c h2
      subst this
      exact .inr (.inl ⟨h1, h2, h1⟩)
    · exact .inr (.inr (.inl ⟨h1, h2, cmp_range a c⟩))
  · have := cmp_zero a b h1
    subst this
    rcases cmp_range a c with h | h | h
    · exact .inr (.inr (.inr (.inl ⟨h1, h, h⟩)))
    · exact .inr (.inr (.inr (.inr (.inl ⟨h1, h, h⟩))))
    · exact .inr (.inr (.inr (.inr (.inr (.inl ⟨h1, h, h⟩)))))
  · exact .inr (.inr (.inr (.inr (.inr (.inr ⟨h1, cmp_range b c, cmp_range a c⟩)))))

set_option maxHeartbeats 4000000 in
theorem order_ok (h102 : E 102 = some (.code c102)) (K : ValOk E) (x y z : List UInt8) : lcall E 102 [.d (.l 1 (byteRows x)), .d (.l 1 (byteRows y)), .d (.l 1 (byteRows z))] [] = some (.d (.b true), []) := by
  have hb := K.begun
  refine call_wx h102 ?_
  refine wx_seq (wx_region fun K hK => ?_)
  simp only [evW, evX, evM, evN, evC, far, ↓reduceIte, Nat.reduceEqDiff, Nat.reduceAdd, Nat.reduceLeDiff, Nat.reduceSub, Nat.reduceLT, reduceCtorEq, not_true_eq_false, not_false_eq_true, Int.reduceEq, Int.reduceLT, Int.reduceLE, Int.reduceNeg]
  refine hK _ _ ?_; clear hK K
  refine wx_seq (wx_seq ?_)
  refine wx_region fun K hK => ?_
  simp only [evW, evX, evM, evN, evC, far, ↓reduceIte, Nat.reduceEqDiff, Nat.reduceAdd, Nat.reduceLeDiff, Nat.reduceSub, Nat.reduceLT, reduceCtorEq, not_true_eq_false, not_false_eq_true, Int.reduceEq, Int.reduceLT, Int.reduceLE, Int.reduceNeg, hb]
  refine hK _ _ ?_; clear hK K
  refine wx_cond false rfl (fun h => by cases h) (fun _ => wx_skip ?_)
  refine wx_seq (wx_seq ?_)
  by_cases hx : (40 : Int) < x.length
  · refine wx_region fun K hK => ?_
    simp only [evW, evX, evM, evN, evC, far, ↓reduceIte, Nat.reduceEqDiff, Nat.reduceAdd, Nat.reduceLeDiff, Nat.reduceSub, Nat.reduceLT, reduceCtorEq, not_true_eq_false, not_false_eq_true, Int.reduceEq, Int.reduceLT, Int.reduceLE, Int.reduceNeg, eq_true hx, byteRows_length]
    refine hK _ _ ?_; clear hK K
    refine wx_cond true rfl (fun _ => ?_) (fun h => by cases h)
    refine wx_seq (wx_region fun K hK => ?_)
    simp only [evW, evX, evM, evN, evC, far, ↓reduceIte, Nat.reduceEqDiff, Nat.reduceAdd, Nat.reduceLeDiff, Nat.reduceSub, Nat.reduceLT, reduceCtorEq, not_true_eq_false, not_false_eq_true, Int.reduceEq, Int.reduceLT, Int.reduceLE, Int.reduceNeg]
    refine hK _ _ ?_; clear hK K
    refine wx_ret ⟨.inr rfl, ?_⟩
    simp only [evR, evX, evC, evN, ↓reduceIte, Nat.reduceEqDiff, Nat.reduceAdd, Nat.reduceLeDiff, Nat.reduceLT, Nat.reduceSub, reduceCtorEq, far, c102]
  by_cases hy : (40 : Int) < y.length
  · refine wx_region fun K hK => ?_
    simp only [evW, evX, evM, evN, evC, far, ↓reduceIte, Nat.reduceEqDiff, Nat.reduceAdd, Nat.reduceLeDiff, Nat.reduceSub, Nat.reduceLT, reduceCtorEq, not_true_eq_false, not_false_eq_true, Int.reduceEq, Int.reduceLT, Int.reduceLE, Int.reduceNeg, hx, eq_true hy, byteRows_length]
    refine hK _ _ ?_; clear hK K
    refine wx_cond true rfl (fun _ => ?_) (fun h => by cases h)
    refine wx_seq (wx_region fun K hK => ?_)
    simp only [evW, evX, evM, evN, evC, far, ↓reduceIte, Nat.reduceEqDiff, Nat.reduceAdd, Nat.reduceLeDiff, Nat.reduceSub, Nat.reduceLT, reduceCtorEq, not_true_eq_false, not_false_eq_true, Int.reduceEq, Int.reduceLT, Int.reduceLE, Int.reduceNeg]
    refine hK _ _ ?_; clear hK K
    refine wx_ret ⟨.inr rfl, ?_⟩
    simp only [evR, evX, evC, evN, ↓reduceIte, Nat.reduceEqDiff, Nat.reduceAdd, Nat.reduceLeDiff, Nat.reduceLT, Nat.reduceSub, reduceCtorEq, far, c102]
  by_cases hz : (40 : Int) < z.length
  · refine wx_region fun K hK => ?_
    simp only [evW, evX, evM, evN, evC, far, ↓reduceIte, Nat.reduceEqDiff, Nat.reduceAdd, Nat.reduceLeDiff, Nat.reduceSub, Nat.reduceLT, reduceCtorEq, not_true_eq_false, not_false_eq_true, Int.reduceEq, Int.reduceLT, Int.reduceLE, Int.reduceNeg, hx, hy, eq_true hz, byteRows_length]
    refine hK _ _ ?_; clear hK K
    refine wx_cond true rfl (fun _ => ?_) (fun h => by cases h)
    refine wx_seq (wx_region fun K hK => ?_)
    simp only [evW, evX, evM, evN, evC, far, ↓reduceIte, Nat.reduceEqDiff, Nat.reduceAdd, Nat.reduceLeDiff, Nat.reduceSub, Nat.reduceLT, reduceCtorEq, not_true_eq_false, not_false_eq_true, Int.reduceEq, Int.reduceLT, Int.reduceLE, Int.reduceNeg]
    refine hK _ _ ?_; clear hK K
    refine wx_ret ⟨.inr rfl, ?_⟩
    simp only [evR, evX, evC, evN, ↓reduceIte, Nat.reduceEqDiff, Nat.reduceAdd, Nat.reduceLeDiff, Nat.reduceLT, Nat.reduceSub, reduceCtorEq, far, c102]
  refine wx_region fun K hK => ?_
  simp only [evW, evX, evM, evN, evC, far, ↓reduceIte, Nat.reduceEqDiff, Nat.reduceAdd, Nat.reduceLeDiff, Nat.reduceSub, Nat.reduceLT, reduceCtorEq, not_true_eq_false, not_false_eq_true, Int.reduceEq, Int.reduceLT, Int.reduceLE, Int.reduceNeg, hx, hy, hz, byteRows_length]
  refine hK _ _ ?_; clear hK K
  refine wx_cond false rfl (fun h => by cases h) (fun _ => wx_skip ?_)
  obtain ⟨a, n1, c1, _, g1⟩ := K.gen x (by omega) 3 (by omega) 0 (by omega)
  obtain ⟨b, n2, c2, _, g2⟩ := K.gen y (by omega) 3 (by omega) 0 (by omega)
  obtain ⟨c, n3, c3, _, g3⟩ := K.gen z (by omega) 3 (by omega) 0 (by omega)
  have m1 := K.made x
  have m2 := K.made y
  have m3 := K.made z
  have d3 : ((3 : Nat) : Int) = 3 := rfl
  rw [d3] at c1 c2 c3
  refine wx_seq (wx_region fun K hK => ?_)
  simp only [evW, evX, evM, evN, evC, far, ↓reduceIte, Nat.reduceEqDiff, Nat.reduceAdd, Nat.reduceLeDiff, Nat.reduceSub, Nat.reduceLT, reduceCtorEq, not_true_eq_false, not_false_eq_true, Int.reduceEq, Int.reduceLT, Int.reduceLE, Int.reduceNeg, m1, m2, m3, c1, c2, c3, range_one]
  refine hK _ _ ?_; clear hK K
  have s1 := g1.small
  have s2 := g2.small
  have s3 := g3.small
  have p1 := K.cmp a b s1 s2
  have p2 := K.cmp b c s2 s3
  have p3 := K.cmp a c s1 s3
  have p4 := K.cmp b a s2 s1
  have p5 := K.cmp a a s1 s1
  have p6 := K.same a b s1 s2
  obtain ⟨⟨e1, e2⟩, e3⟩ := three a b c
  rw [e1] at p4
  rw [e2] at p5
  refine wx_seq (wx_regionT fun K hK => ?_)
  simp only [evW, evX, evM, evN, evC, far, ↓reduceIte, Nat.reduceEqDiff, Nat.reduceAdd, Nat.reduceLeDiff, Nat.reduceSub, Nat.reduceLT, reduceCtorEq, not_true_eq_false, not_false_eq_true, Int.reduceEq, Int.reduceLT, Int.reduceLE, Int.reduceNeg, p1, p2, p3]
  refine hK _ _ (by rfl) ?_; clear hK K
  refine wx_seq (wx_seq ?_)
  have w0 : IntKind.i64.wrap (-0) = 0 := by decide
  have w3 : IntKind.i64.wrap 0 = 0 := by decide
  have w1 : IntKind.i64.wrap (-1) = -1 := by decide
  have w2 : IntKind.i64.wrap 1 = 1 := by decide
  have n1 : (-(-1 : Int)) = 1 := rfl
  have n0 : (-(0 : Int)) = 0 := rfl
  rcases e3 with ⟨h1, h2, h3⟩ | ⟨h1, h2, h3⟩ | ⟨h1, h2, h3 | h3 | h3⟩ | ⟨h1, h2, h3⟩ | ⟨h1, h2, h3⟩ | ⟨h1, h2, h3⟩ | ⟨h1, h2 | h2 | h2, h3 | h3 | h3⟩
  all_goals
    simp only [h1, h2, h3, n1, n0] at p1 p2 p3 p4 p5 p6 ⊢
    refine wx_region fun K hK => ?_
    simp only [evW, evX, evM, evN, evC, far, ↓reduceIte, Nat.reduceEqDiff, Nat.reduceAdd, Nat.reduceLeDiff, Nat.reduceSub, Nat.reduceLT, reduceCtorEq, not_true_eq_false, not_false_eq_true, Int.reduceEq, Int.reduceLT, Int.reduceLE, Int.reduceNeg, p4, p5, n1, n0, w0, w1, w2, w3]
    refine hK _ _ ?_; clear hK K
    refine wx_cond false rfl (fun h => by cases h) (fun _ => wx_skip ?_)
    refine wx_seq (wx_region fun K hK => ?_)
    simp only [evW, evX, evM, evN, evC, far, ↓reduceIte, Nat.reduceEqDiff, Nat.reduceAdd, Nat.reduceLeDiff, Nat.reduceSub, Nat.reduceLT, reduceCtorEq, not_true_eq_false, not_false_eq_true, Int.reduceEq, Int.reduceLT, Int.reduceLE, Int.reduceNeg, p6, n1, n0, decide_true, decide_false, Bool.true_eq_false, Bool.false_eq_true]
    refine hK _ _ ?_; clear hK K
    refine wx_ret ⟨.inr rfl, ?_⟩
    simp only [evR, evX, evC, evN, ↓reduceIte, Nat.reduceEqDiff, Nat.reduceAdd, Nat.reduceLeDiff, Nat.reduceLT, Nat.reduceSub, reduceCtorEq, far, c102]
end Ab

/-
  What the functions are, together.
-/
namespace Ab
open Go
set_option linter.unusedVariables false
variable {E : Nat → Option Fn}

/-- the table. -/
structure ValE (E : Nat → Option Fn) : Prop where
  h106 : E 106 = some (.code c106)
  h107 : E 107 = some (.code c107)
  h108 : E 108 = some (.code c108)
  h109 : E 109 = some (.code c109)
  h110 : E 110 = some (.code c110)
  h111 : E 111 = some (.code c111)
  h112 : E 112 = some (.code c112)
  h113 : E 113 = some (.code c113)
  h114 : E 114 = some (.code c114)
  h115 : E 115 = some (.code c115)
  h116 : E 116 = some (.code c116)
  h117 : E 117 = some (.code c117)
  h118 : E 118 = some (.code c118)
  h119 : E 119 = some (.code c119)
  h120 : E 120 = some (.code c120)
  h121 : E 121 = some (.code c121)
  h123 : E 123 = some (.code c123)
  h124 : E 124 = some (.code c124)
  h125 : E 125 = some (.code c125)
  h126 : E 126 = some (.code c126)
  h127 : E 127 = some (.code c127)
  h128 : E 128 = some (.code c128)
  h129 : E 129 = some (.code c129)
  h130 : E 130 = some (.code c130)
  h131 : E 131 = some (.code c131)
  h132 : E 132 = some (.code c132)
  h133 : E 133 = some (.code c133)
  h134 : E 134 = some (.prim insImpl)
  h135 : E 135 = some (.code c135)
  h136 : E 136 = some (.code c136)
  h137 : E 137 = some (.code c137)
  h138 : E 138 = some (.code c138)
  h139 : E 139 = some (.code c139)
  h140 : E 140 = some (.code c140)
  h141 : E 141 = some (.code c141)
  h142 : E 142 = some (.code c142)
  h143 : E 143 = some (.code c143)
  h144 : E 144 = some (.code c144)
  h145 : E 145 = some (.code c145)
  h146 : E 146 = some (.prim (cloneImpl 4 56))
  h147 : E 147 = some (.code c147)
  h150 : E 150 = some (.code c150)
  h151 : E 151 = some (.code c151)
  h152 : E 152 = some (.code c152)
  h153 : E 153 = some (.code c153)
  h154 : E 154 = some (.code c154)
  h155 : E 155 = some (.code c155)

theorem valOk (H : ValE E) : ValOk E := by
  have refCmp := refCmp_ok H.h115 H.h131
  have refIns : ∀ (l : List Val) (v : Val), l.length ≤ 1000 → (∀ x ∈ l, Small x) → Small v → lcall E 117 [.d (.l 4 (valRows l)), v.arg] [] = some (.d (.l 4 (valRows (insV l v))), []) :=
    fun l v hl hs hv => refIns_ok H.h117 (fun x hx => refCmp x v (hs x hx) hv) hl
  have key138 := fun v => key_ok H.h138 rfl v
  have key137 := fun v => key_ok H.h137 rfl v
  have refFind := fun (l : List Val) (k : List UInt8) (hl : l.length ≤ 1000) => refFind_ok H.h120 key138 hl k
  have c127 := cmp127 H.h143 H.h127
  have c128 := cmp128 H.h144 H.h128
  have c129 := cmp129 H.h145 H.h129
  have cmp := cmp_ok H.h114 H.h126 H.h130 c127 c128 c129
  have contains : ∀ (f : Nat) (l : List Val) (p : Val → Bool), l.length ≤ 1000 → (∀ x ∈ l, lcall E f [x.arg] [] = some (.d (.b (p x)), [])) → lcall E 141 [.d (.l 4 (valRows l)), .d (.f f [] [])] [] = some (.d (.b (l.any p)), []) :=
    fun f l p hl ih => contains_ok H.h141 H.h155 hl ih
  have rises : ∀ (f : Nat) (l : List Val) (c : Val → Val → Int), l.length ≤ 1000 → (∀ x ∈ l, ∀ y ∈ l, lcall E f [x.arg, y.arg] [] = some (.d (.i .i64 (c x y)), [])) → lcall E 151 [.d (.l 4 (valRows l)), .d (.f f [] [])] [] = some (.d (.b (chainB (fun a b => decide (c a b < 0)) l)), []) :=
    fun f l c hl ih => rises_ok H.h151 hl ih
  have notpair := notpair_ok H.h152 H.h153
  have cmpKey := cmpKey_ok H.h154 key137 c129
  have row := row_ok H.h140 contains rises cmp notpair cmpKey
  have size := size_ok H.h112
  have refSize := refSize_ok H.h113
  have mayIn := mayIn_ok H.h125 H.h142 contains (number_ok H.h139) row
  have may := may_ok H.h111 size mayIn
  have refMay := refMay_ok H.h110 refSize refCmp
  have mine := fun v hv => mine_ok (v := v) H.h132 H.h146 hv
  have ins : InsOk E := fun l v hl hs hv hch => ins116_ok H.h116 H.h133 H.h147 H.h134 mine cmp hl hs hv hch
  have find1 := find1_ok H.h136 key137 c129
  have find : FindOk E := fun l k hl hch hne => find_ok H.h119 H.h135 H.h150 find1 hl hch hne k
  have same := same_ok H.h121 refCmp
  exact {
    begun := begun_ok H.h106 ins find size may cmp
    made := made_ok H.h108
    gen := fun l hl deep hd => gen_ok H.h109 H.h124 (fun ws v h1 h2 h3 => refIns ws v h1 h2 h3) (fun ws k h => refFind ws k h) (fun n hn m hm => num_ok H.h123 l n hl hn m hm) deep hd
    refMay := refMay
    may := may
    size := size
    refSize := refSize
    cmp := cmp
    refCmp := refCmp
    ins := ins
    refIns := refIns
    sameVals := sameVals_ok H.h118 same
    find := find
    refFind := fun l k hl => refFind l k hl
    same := same }
end Ab

/-
  What the laws of values are handed.
-/
namespace Ab
open Go
set_option linter.unusedVariables false

theorem wf_u8 {n : Int} (h : (Lit.int .u8 n).wf = true) : ∃ c : UInt8, n = c.toNat := by
  simp only [Lit.wf, Bool.and_eq_true, decide_eq_true_eq, IntKind.min, IntKind.max, IntKind.signed, IntKind.bits] at h
  refine ⟨UInt8.ofNat n.toNat, ?_⟩
  rw [UInt8.toNat_ofNat']
  simp at h
  omega

section
variable {P : Program}

theorem tyD_bytes {t e : TypeId} (hu : P.underlying t = some (.slice e)) (he : P.underlying e = some (.int .u8)) (hc : P.cellsOf e = 1) : ∀ {f : Nat} {ds : List D}, tyD P f t ds → ∃ l, ds = [.l 1 (byteRows l)]
  | 0, ds, h => h.elim
  | f + 1, ds, h => by
    simp only [tyD, hu, hc] at h
    obtain ⟨xs, rfl, _, h3⟩ := h
    have : ∀ (xs : List (List D)), (∀ r ∈ xs, r.length = 1 ∧ tyD P f e r) → ∃ l, xs = byteRows l := by
      intro xs
      induction xs with
      | nil => intro _; exact ⟨[], rfl⟩
      | cons r rs ih =>
        intro h
        obtain ⟨l, rfl⟩ := ih (fun r hr => h r (by simp [hr]))
        obtain ⟨_, h1⟩ := h r (by simp)
        cases f with
        | zero => exact h1.elim
        | succ f =>
          simp only [tyD, he] at h1
          obtain ⟨n, rfl, hw⟩ := h1
          obtain ⟨c, rfl⟩ := wf_u8 hw
          exact ⟨c :: l, rfl⟩
    obtain ⟨l, rfl⟩ := this xs h3
    exact ⟨l, rfl⟩

/-- lots of bytes. -/
def lotRows (l : List (List UInt8)) : List (List D) := l.map fun x => [.l 1 (byteRows x)]

theorem lotRows_length (l : List (List UInt8)) : (lotRows l).length = l.length := by simp [lotRows]
theorem lotRows_get (l : List (List UInt8)) (i : Nat) : (lotRows l)[i]? = (l[i]?).map fun x => [.l 1 (byteRows x)] := by simp [lotRows]

theorem tyD_lots {s t e : TypeId} (hs : P.underlying s = some (.slice t)) (ht : P.cellsOf t = 1) (hu : P.underlying t = some (.slice e)) (he : P.underlying e = some (.int .u8)) (hc : P.cellsOf e = 1) : ∀ {f : Nat} {ds : List D}, tyD P f s ds → ∃ l, ds = [.l 1 (lotRows l)]
  | 0, ds, h => h.elim
  | f + 1, ds, h => by
    simp only [tyD, hs, ht] at h
    obtain ⟨xs, rfl, _, h3⟩ := h
    have : ∀ (xs : List (List D)), (∀ r ∈ xs, r.length = 1 ∧ tyD P f t r) → ∃ l, xs = lotRows l := by
      intro xs
      induction xs with
      | nil => intro _; exact ⟨[], rfl⟩
      | cons r rs ih =>
        intro h
        obtain ⟨l, rfl⟩ := ih (fun r hr => h r (by simp [hr]))
        obtain ⟨_, h1⟩ := h r (by simp)
        obtain ⟨x, rfl⟩ := tyD_bytes hu he hc h1
        exact ⟨x :: l, rfl⟩
    obtain ⟨l, rfl⟩ := this xs h3
    exact ⟨l, rfl⟩

theorem tyD_str {t : TypeId} (hu : P.underlying t = some .string) : ∀ {f : Nat} {ds : List D}, tyD P f t ds → ∃ x, ds = [.s x]
  | 0, ds, h => h.elim
  | f + 1, ds, h => by
    simp only [tyD, hu] at h
    obtain ⟨x, rfl, _⟩ := h
    exact ⟨x, rfl⟩

theorem tyD_u8 {t : TypeId} (hu : P.underlying t = some (.int .u8)) : ∀ {f : Nat} {ds : List D}, tyD P f t ds → ∃ c : UInt8, ds = [.i .u8 c.toNat]
  | 0, ds, h => h.elim
  | f + 1, ds, h => by
    simp only [tyD, hu] at h
    obtain ⟨n, rfl, hw⟩ := h
    obtain ⟨c, rfl⟩ := wf_u8 hw
    exact ⟨c, rfl⟩

theorem tyD_i64 {t : TypeId} (hu : P.underlying t = some (.int .i64)) : ∀ {f : Nat} {ds : List D}, tyD P f t ds → ∃ n : Int, ds = [.i .i64 n]
  | 0, ds, h => h.elim
  | f + 1, ds, h => by
    simp only [tyD, hu] at h
    obtain ⟨n, rfl, _⟩ := h
    exact ⟨n, rfl⟩

/-- a value. -/
theorem tyD_val {v k i s l : TypeId} {fs : Array Field} (hv : P.underlying v = some (.struct fs)) (hf : fs.toList.map (fun x => (x.offset, x.type)) = [(0, k), (1, i), (2, s), (3, l)]) (hk : P.underlying k = some (.int .i64)) (hi : P.underlying i = some (.int .i64)) (hs : P.underlying s = some .string) (hl : P.underlying l = some (.slice v))
    (ck : P.cellsOf k = 1) (ci : P.cellsOf i = 1) (cs : P.cellsOf s = 1) (cl : P.cellsOf l = 1) (cv : P.cellsOf v = 4) : ∀ (f : Nat) {ds : List D}, tyD P f v ds → ∃ x : Val, ds = x.row := by
  intro f
  induction f using Nat.strongRecOn with
  | _ f ih =>
    intro ds h
    cases f with
    | zero => exact h.elim
    | succ f =>
      simp only [tyD, hv, cv] at h
      obtain ⟨hlen, h⟩ := h
      obtain ⟨a, b, c, d, rfl⟩ : ∃ a b c d, ds = [a, b, c, d] := by
        match ds, hlen with
        | [a, b, c, d], _ => exact ⟨a, b, c, d, rfl⟩
      have hfld : ∀ (o : Nat) (t : TypeId), (o, t) ∈ fs.toList.map (fun x => (x.offset, x.type)) → tyD P f t ((([a, b, c, d] : List D).drop o).take (P.cellsOf t)) := by
        intro o t hm
        obtain ⟨x, hx, he⟩ := List.mem_map.1 hm
        cases he
        exact h x hx
      have h1 := hfld 0 k (by rw [hf]; simp)
      have h2 := hfld 1 i (by rw [hf]; simp)
      have h3 := hfld 2 s (by rw [hf]; simp)
      have h4 := hfld 3 l (by rw [hf]; simp)
      rw [ck] at h1
      rw [ci] at h2
      rw [cs] at h3
      rw [cl] at h4
      simp only [List.drop_zero, List.drop_succ_cons, List.take_succ_cons, List.take_zero] at h1 h2 h3 h4
      obtain ⟨n1, e1⟩ := tyD_i64 hk h1
      obtain ⟨n2, e2⟩ := tyD_i64 hi h2
      obtain ⟨x3, e3⟩ := tyD_str hs h3
      cases e1; cases e2; cases e3
      cases f with
      | zero => exact h4.elim
      | succ f =>
        simp only [tyD, hl, cv] at h4
        obtain ⟨xs, e4, _, h5⟩ := h4
        cases e4
        have : ∀ (xs : List (List D)), (∀ r ∈ xs, r.length = 4 ∧ tyD P f v r) → ∃ l, xs = valRows l := by
          intro xs
          induction xs with
          | nil => intro _; exact ⟨[], rfl⟩
          | cons r rs ihr =>
            intro h
            obtain ⟨l, rfl⟩ := ihr (fun r hr => h r (by simp [hr]))
            obtain ⟨_, h1⟩ := h r (by simp)
            obtain ⟨x, rfl⟩ := ih f (by omega) h1
            exact ⟨x :: l, rfl⟩
        obtain ⟨l, rfl⟩ := this xs h5
        exact ⟨.mk n1 n2 x3 l, rfl⟩

theorem trod_len {H : Type} {enc : TypeId × Value → H} {W : World} {sp : Nat → Bool} : ∀ {ts : List TypeId} {vs : List Value} {ds : List (DataW H)} {ps : List MemPlace}, DataW.TrodAll enc P W 0 sp true ts vs ds ps → ds.length = ts.length
  | [], [], [], ps, _ => rfl
  | t :: ts, v :: vs, d :: ds, ps, ⟨p, q, h1, h2, e⟩ => by simp [trod_len h2]
  | [], [], _ :: _, _, h => h.elim
  | [], _ :: _, _, _, h => h.elim
  | _ :: _, [], _, _, h => h.elim
  | _ :: _, _ :: _, [], _, h => h.elim
end
end Ab

/-
  What holds values is one greater than they are together.
-/
namespace Ab
open Go
set_option linter.unusedVariables false
set_option linter.unusedSimpArgs false
set_option maxRecDepth 100000
variable {E : Nat → Option Fn}

theorem szL_append : ∀ (a b : List Val), szL (a ++ b) = szL a + szL b
  | [], b => by simp [szL]
  | x :: a, b => by simp only [List.cons_append, szL, szL_append a b]; omega

theorem bnd2 : bnd 2 ≤ 1000 := by decide

def lsLoop : CCode := match c105.body with
  | .seq _ (.seq _ (.seq _ (.seq _ (.seq _ (.seq (.seq _ (.block _ (.loop _ c))) _))))) => c
  | _ => .skip

set_option maxHeartbeats 1000000 in
theorem ls_loop (K : ValOk E) {l : List (List UInt8)} (hl : l.length ≤ 6) {Q : Ex → St → Prop} (hx : ∀ tm hp, Q (.exit 0) ⟨tm, hp⟩) (hr : ∀ tm hp, look tm 2 = .d (.b true) → Q .ret ⟨tm, hp⟩) :
    ∀ (m i : Nat) (ws : List Val), i + m = l.length → ws.length = i → (∀ x ∈ ws, GenOk (bnd 2) x) →
      LX E lsLoop ⟨[0, 3, 4, 5], [], [(3, 3)], [], [], true⟩ 2 ⟨[(0, .d (.l 1 (lotRows l))), (3, .ptr 0 0), (4, .d (.i .i64 ((1 + szL ws : Nat) : Int))), (5, .d (.i .i64 i))], [some (.box [.d (.i .i64 4), .d (.i .i64 0), .d (.s []), .own 1 0 4 (valRows ws)]), some (.tok 0 4)]⟩ Q := by
  intro m
  induction m with
  | zero =>
    intro i ws hi hw hok
    have hn : ¬ ((i : Int) < l.length) := by omega
    refine lx_step (wx_seq (wx_seq ?_))
    refine wx_region fun K hK => ?_
    simp only [evW, evX, evM, evN, evC, far, ↓reduceIte, Nat.reduceEqDiff, Nat.reduceAdd, Nat.reduceLeDiff, Nat.reduceSub, Nat.reduceLT, reduceCtorEq, not_true_eq_false, not_false_eq_true, Int.reduceEq, Int.reduceLT, Int.reduceLE, Int.reduceNeg, hn, lotRows_length]
    refine hK _ _ ?_; clear hK K
    refine wx_cond false rfl (fun h => by cases h) (fun _ => wx_exit ?_)
    exact hx _ _
  | succ m ih =>
    intro i ws hi hw hok
    have hy : (i : Int) < l.length := by omega
    have la : i < l.length := by omega
    have h0 : (0 : Int) ≤ i := by omega
    have ga : (lotRows l)[i]? = some [.l 1 (byteRows l[i])] := by rw [lotRows_get, List.getElem?_eq_getElem la]; rfl
    have w : IntKind.i64.wrap ((i : Int) + 1) = ((i + 1 : Nat) : Int) := by rw [i64_in (by omega) (by omega)]; omega
    generalize l[i] = b at *
    refine lx_step (wx_seq (wx_seq ?_))
    refine wx_region fun K hK => ?_
    simp only [evW, evX, evM, evN, evC, far, ↓reduceIte, Nat.reduceEqDiff, Nat.reduceAdd, Nat.reduceLeDiff, Nat.reduceSub, Nat.reduceLT, reduceCtorEq, not_true_eq_false, not_false_eq_true, Int.reduceEq, Int.reduceLT, Int.reduceLE, Int.reduceNeg, hy, lotRows_length]
    refine hK _ _ ?_; clear hK K
    refine wx_cond true rfl (fun _ => wx_skip ?_) (fun h => by cases h)
    refine wx_seq (wx_block ?_)
    refine wx_seq (wx_seq ?_)
    by_cases hb : (20 : Int) < b.length
    · refine wx_region fun K hK => ?_
      simp only [evW, evX, evM, evN, evC, far, ↓reduceIte, Nat.reduceEqDiff, Nat.reduceAdd, Nat.reduceLeDiff, Nat.reduceSub, Nat.reduceLT, reduceCtorEq, not_true_eq_false, not_false_eq_true, Int.reduceEq, Int.reduceLT, Int.reduceLE, Int.reduceNeg, h0, Int.toNat_natCast, ga, byteRows_length, eq_true hb]
      refine hK _ _ ?_; clear hK K
      refine wx_cond true rfl (fun _ => ?_) (fun h => by cases h)
      refine wx_seq (wx_region fun K hK => ?_)
      simp only [evW, evX, evM, evN, evC, far, ↓reduceIte, Nat.reduceEqDiff, Nat.reduceAdd, Nat.reduceLeDiff, Nat.reduceSub, Nat.reduceLT, reduceCtorEq, not_true_eq_false, not_false_eq_true, Int.reduceEq, Int.reduceLT, Int.reduceLE, Int.reduceNeg]
      refine hK _ _ ?_; clear hK K
      refine wx_ret (hr _ _ ?_)
      simp only [evX, evN, ↓reduceIte, Nat.reduceEqDiff]
    refine wx_region fun K hK => ?_
    simp only [evW, evX, evM, evN, evC, far, ↓reduceIte, Nat.reduceEqDiff, Nat.reduceAdd, Nat.reduceLeDiff, Nat.reduceSub, Nat.reduceLT, reduceCtorEq, not_true_eq_false, not_false_eq_true, Int.reduceEq, Int.reduceLT, Int.reduceLE, Int.reduceNeg, h0, Int.toNat_natCast, ga, byteRows_length, hb]
    refine hK _ _ ?_; clear hK K
    refine wx_cond false rfl (fun h => by cases h) (fun _ => wx_skip ?_)
    have m1 := K.made b
    obtain ⟨x, n', c1, _, g1⟩ := K.gen b (by omega) 2 (by omega) 0 (by omega)
    have d2 : ((2 : Nat) : Int) = 2 := rfl
    rw [d2] at c1
    have hb2 := bnd2
    have hxs : szN x ≤ 1000 := Nat.le_trans g1.size hb2
    have hws : szL ws ≤ 6 * 1000 := Nat.le_trans (szL_of hok) (Nat.mul_le_mul (by omega) hb2)
    have hok' : ∀ y ∈ ws ++ [x], GenOk (bnd 2) y := fun y hy => by
      rcases List.mem_append.1 hy with h | h
      · exact hok y h
      · rw [List.mem_singleton.1 h]; exact g1
    have hsz : szL (ws ++ [x]) = szL ws + szN x := by rw [szL_append]; simp [szL]
    have hsv : Small (.mk 4 0 [] (ws ++ [x])) := small_mk (by simp; omega) (fun y hy => (hok' y hy).small)
    have z1 := K.size x g1.small
    rw [sizeV_fit x (by omega)] at z1
    have hN : szN (.mk 4 0 [] (ws ++ [x])) = 1 + szL (ws ++ [x]) := by rw [szN_eq]; simp [Val.s, Val.l]
    have z2 := K.size _ hsv
    rw [sizeV_fit _ (by rw [hN, hsz]; omega), hN] at z2
    have hmay : mayV (.mk 4 0 [] (ws ++ [x])) = true := by simp [mayV, numOk, rowOk, mayL_of hok']
    have z3 := K.may _ hsv
    rw [sizeV_fit _ (by rw [hN, hsz]; omega), hN, hmay, Bool.and_true] at z3
    simp only [Val.arg, Val.kind, Val.i, Val.s, Val.l] at z2 z3
    have w2 : IntKind.i64.wrap (((1 + szL ws : Nat) : Int) + (szN x : Int)) = ((1 + szL (ws ++ [x]) : Nat) : Int) := by rw [i64_in (by omega) (by omega), hsz]; omega
    have r2 : roomy (ws.length + 1) 56 = true := roomy_in (by omega)
    have hrow : valRows ws ++ [[.i .i64 x.kind, .i .i64 x.i, .s x.s, .l 4 (valRows x.l)]] = valRows (ws ++ [x]) := by rw [valRows_append]; simp [valRows, row_eq]
    refine wx_seq (wx_region fun K hK => ?_)
    simp only [evW, evX, evM, evN, evC, far, ↓reduceIte, Nat.reduceEqDiff, Nat.reduceAdd, Nat.reduceLeDiff, Nat.reduceSub, Nat.reduceLT, reduceCtorEq, not_true_eq_false, not_false_eq_true, Int.reduceEq, Int.reduceLT, Int.reduceLE, Int.reduceNeg, h0, Int.toNat_natCast, ga, m1, c1, range_one]
    refine hK _ _ ?_; clear hK K
    refine wx_seq (wx_region fun K hK => ?_)
    simp only [evW, evX, evM, evN, evC, far, ↓reduceIte, Nat.reduceEqDiff, Nat.reduceAdd, Nat.reduceLeDiff, Nat.reduceSub, Nat.reduceLT, reduceCtorEq, not_true_eq_false, not_false_eq_true, Int.reduceEq, Int.reduceLT, Int.reduceLE, Int.reduceNeg, valRows_length, r2, hrow]
    refine hK _ _ ?_; clear hK K
    refine wx_seq (wx_region fun K hK => ?_)
    simp only [evW, evX, evM, evN, evC, far, ↓reduceIte, Nat.reduceEqDiff, Nat.reduceAdd, Nat.reduceLeDiff, Nat.reduceSub, Nat.reduceLT, reduceCtorEq, not_true_eq_false, not_false_eq_true, Int.reduceEq, Int.reduceLT, Int.reduceLE, Int.reduceNeg, z1, w2]
    refine hK _ _ ?_; clear hK K
    refine wx_seq ?_
    refine wx_region fun K hK => ?_
    simp only [evW, evX, evM, evN, evC, far, ↓reduceIte, Nat.reduceEqDiff, Nat.reduceAdd, Nat.reduceLeDiff, Nat.reduceSub, Nat.reduceLT, reduceCtorEq, not_true_eq_false, not_false_eq_true, Int.reduceEq, Int.reduceLT, Int.reduceLE, Int.reduceNeg, z2, z3]
    refine hK _ _ ?_; clear hK K
    refine wx_cond false rfl (fun h => by cases h) (fun _ => wx_skip ?_)
    refine wx_region fun K hK => ?_
    simp only [evW, evX, evM, evN, evC, far, ↓reduceIte, Nat.reduceEqDiff, Nat.reduceAdd, Nat.reduceLeDiff, Nat.reduceSub, Nat.reduceLT, reduceCtorEq, not_true_eq_false, not_false_eq_true, Int.reduceEq, Int.reduceLT, Int.reduceLE, Int.reduceNeg, w]
    refine hK _ _ ?_; clear hK K
    refine ⟨_, ?_, ih (i + 1) (ws ++ [x]) (by omega) (by simp; omega) hok'⟩
    simp only [evH, evX, evN, ↓reduceIte, Nat.reduceEqDiff, Nat.reduceAdd, Nat.reduceLeDiff, Nat.reduceLT, Nat.reduceSub, reduceCtorEq]

theorem lsize_ok (h105 : E 105 = some (.code c105)) (K : ValOk E) (l : List (List UInt8)) : ∃ h', lcall E 105 [.d (.l 1 (lotRows l))] [] = some (.d (.b true), h') := by
  have hb := K.begun
  refine (call_wxP h105 (R := fun x => x.1 = .d (.b true)) ?_).elim fun x hx => ⟨x.2, by rw [hx.1, ← hx.2]⟩
  refine wx_seq (wx_region fun K hK => ?_)
  simp only [evW, evX, evM, evN, evC, far, ↓reduceIte, Nat.reduceEqDiff, Nat.reduceAdd, Nat.reduceLeDiff, Nat.reduceSub, Nat.reduceLT, reduceCtorEq, not_true_eq_false, not_false_eq_true, Int.reduceEq, Int.reduceLT, Int.reduceLE, Int.reduceNeg]
  refine hK _ _ ?_; clear hK K
  refine wx_seq (wx_seq ?_)
  refine wx_region fun K hK => ?_
  simp only [evW, evX, evM, evN, evC, far, ↓reduceIte, Nat.reduceEqDiff, Nat.reduceAdd, Nat.reduceLeDiff, Nat.reduceSub, Nat.reduceLT, reduceCtorEq, not_true_eq_false, not_false_eq_true, Int.reduceEq, Int.reduceLT, Int.reduceLE, Int.reduceNeg, hb]
  refine hK _ _ ?_; clear hK K
  refine wx_cond false rfl (fun h => by cases h) (fun _ => wx_skip ?_)
  refine wx_seq (wx_seq ?_)
  by_cases hl : (6 : Int) < l.length
  · refine wx_region fun K hK => ?_
    simp only [evW, evX, evM, evN, evC, far, ↓reduceIte, Nat.reduceEqDiff, Nat.reduceAdd, Nat.reduceLeDiff, Nat.reduceSub, Nat.reduceLT, reduceCtorEq, not_true_eq_false, not_false_eq_true, Int.reduceEq, Int.reduceLT, Int.reduceLE, Int.reduceNeg, eq_true hl, lotRows_length]
    refine hK _ _ ?_; clear hK K
    refine wx_cond true rfl (fun _ => ?_) (fun h => by cases h)
    refine wx_seq (wx_region fun K hK => ?_)
    simp only [evW, evX, evM, evN, evC, far, ↓reduceIte, Nat.reduceEqDiff, Nat.reduceAdd, Nat.reduceLeDiff, Nat.reduceSub, Nat.reduceLT, reduceCtorEq, not_true_eq_false, not_false_eq_true, Int.reduceEq, Int.reduceLT, Int.reduceLE, Int.reduceNeg]
    refine hK _ _ ?_; clear hK K
    refine wx_ret ⟨.inr rfl, (.d (.b true), []), ?_, rfl⟩
    simp only [evR, evX, evC, evN, ↓reduceIte, Nat.reduceEqDiff, Nat.reduceAdd, Nat.reduceLeDiff, Nat.reduceLT, Nat.reduceSub, reduceCtorEq, far, c105]
  refine wx_region fun K hK => ?_
  simp only [evW, evX, evM, evN, evC, far, ↓reduceIte, Nat.reduceEqDiff, Nat.reduceAdd, Nat.reduceLeDiff, Nat.reduceSub, Nat.reduceLT, reduceCtorEq, not_true_eq_false, not_false_eq_true, Int.reduceEq, Int.reduceLT, Int.reduceLE, Int.reduceNeg, hl, lotRows_length]
  refine hK _ _ ?_; clear hK K
  refine wx_cond false rfl (fun h => by cases h) (fun _ => wx_skip ?_)
  refine wx_seq (wx_region fun K hK => ?_)
  simp only [evW, evX, evM, evN, evC, far, ↓reduceIte, Nat.reduceEqDiff, Nat.reduceAdd, Nat.reduceLeDiff, Nat.reduceSub, Nat.reduceLT, reduceCtorEq, not_true_eq_false, not_false_eq_true, Int.reduceEq, Int.reduceLT, Int.reduceLE, Int.reduceNeg]
  refine hK _ _ ?_; clear hK K
  refine wx_seq (wx_region fun K hK => ?_)
  simp only [evW, evX, evM, evN, evC, far, ↓reduceIte, Nat.reduceEqDiff, Nat.reduceAdd, Nat.reduceLeDiff, Nat.reduceSub, Nat.reduceLT, reduceCtorEq, not_true_eq_false, not_false_eq_true, Int.reduceEq, Int.reduceLT, Int.reduceLE, Int.reduceNeg]
  refine hK _ _ ?_; clear hK K
  refine wx_seq (wx_seq ?_)
  refine wx_region fun K hK => ?_
  simp only [evW, evX, evM, evN, evC, far, ↓reduceIte, Nat.reduceEqDiff, Nat.reduceAdd, Nat.reduceLeDiff, Nat.reduceSub, Nat.reduceLT, reduceCtorEq, not_true_eq_false, not_false_eq_true, Int.reduceEq, Int.reduceLT, Int.reduceLE, Int.reduceNeg]
  refine hK _ _ ?_; clear hK K
  refine wx_block (wx_loop ?_)
  simp only [evH, evX, evN, ↓reduceIte, Nat.reduceEqDiff, Nat.reduceAdd, Nat.reduceLeDiff, Nat.reduceLT, Nat.reduceSub, reduceCtorEq]
  refine ls_loop K (by omega) (fun tm hp => ?_) (fun tm hp t2 => ?_) l.length 0 [] (by omega) rfl (by simp)
  · refine wx_seq (wx_region fun K hK => ?_)
    simp only [evW, evX, evM, evN, evC, far, ↓reduceIte, Nat.reduceEqDiff, Nat.reduceAdd, Nat.reduceLeDiff, Nat.reduceSub, Nat.reduceLT, reduceCtorEq, not_true_eq_false, not_false_eq_true, Int.reduceEq, Int.reduceLT, Int.reduceLE, Int.reduceNeg]
    refine hK _ _ ?_; clear hK K
    refine wx_ret ⟨.inr rfl, (.d (.b true), []), ?_, rfl⟩
    simp only [evR, evX, evC, evN, ↓reduceIte, Nat.reduceEqDiff, Nat.reduceAdd, Nat.reduceLeDiff, Nat.reduceLT, Nat.reduceSub, reduceCtorEq, far, c105]
  · refine ⟨.inr rfl, (.d (.b true), []), ?_, rfl⟩
    simp only [evR, evX, evC, evN, ↓reduceIte, Nat.reduceEqDiff, Nat.reduceAdd, Nat.reduceLeDiff, Nat.reduceLT, Nat.reduceSub, reduceCtorEq, far, c105, t2]
end Ab
