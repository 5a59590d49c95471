/-
  Which values may be, how great they are, how they stand.
-/
import Derived.Test.YtbkffiolojmfoaaPack11
set_option linter.unusedSimpArgs false
set_option linter.unusedVariables false
set_option linter.unusedSectionVars false
set_option linter.unnecessarySimpa false
namespace Ab
open Go
set_option linter.unusedVariables false
set_option linter.unusedSimpArgs false
set_option maxRecDepth 100000
variable {E : Nat → Option Fn}

/-- not too great. -/
def lightV : Nat → Val → Bool
  | 0, _ => false
  | d + 1, v => decide (v.l.length ≤ 12) && decide (v.s.length ≤ 2000) && v.l.all (lightV d)

def liLoop : CCode := match c107.body with
  | .seq _ (.seq _ (.seq (.seq _ (.block _ (.loop _ c))) _)) => c
  | _ => .skip

theorem li_loop {v : Val} (hl : v.l.length ≤ 12) {d : Nat} (hd : d ≤ 100) (ih : ∀ x, lcall E 107 [x.arg, .d (.i .i64 d)] [] = some (.d (.b (lightV d x)), [])) {Q : Ex → St → Prop}
    (hx : ∀ tm hp, v.l.all (lightV d) = true → Q (.exit 0) ⟨tm, hp⟩) (hr : ∀ tm hp, v.l.all (lightV d) = false → look tm 4 = .d (.b false) → Q .ret ⟨tm, hp⟩) :
    ∀ (m i : Nat), i + m = v.l.length → (v.l.all (lightV d) = (v.l.drop i).all (lightV d)) →
      LX E liLoop ⟨[1, 2, 5], [], [], [], [], true⟩ 1 ⟨[(1, .d (.i .i64 ((d + 1 : Nat) : Int))), (2, .ptr 0 0), (5, .d (.i .i64 i))], [vbox v]⟩ Q := by
  intro m
  induction m with
  | zero =>
    intro i hi hall
    have hn : ¬ ((i : Int) < v.l.length) := by omega
    refine lx_step (wx_seq (wx_seq ?_))
    refine wx_region fun K hK => ?_
    simp only [evW, evX, evM, evN, evC, far, ↓reduceIte, Nat.reduceEqDiff, Nat.reduceAdd, Nat.reduceLeDiff, Nat.reduceSub, Nat.reduceLT, reduceCtorEq, not_true_eq_false, not_false_eq_true, Int.reduceEq, Int.reduceLT, Int.reduceLE, Int.reduceNeg, hn, valRows_length]
    refine hK _ _ ?_; clear hK K
    refine wx_cond false rfl (fun h => by cases h) (fun _ => wx_exit ?_)
    exact hx _ _ (by rw [hall, List.drop_of_length_le (by omega)]; rfl)
  | succ m ihm =>
    intro i hi hall
    have hy : (i : Int) < v.l.length := by omega
    have la : i < v.l.length := by omega
    have h0 : (0 : Int) ≤ i := by omega
    have ga : (valRows v.l)[i]? = some (Val.row v.l[i]) := by rw [valRows_get, List.getElem?_eq_getElem la]; rfl
    have w : IntKind.i64.wrap ((i : Int) + 1) = ((i + 1 : Nat) : Int) := by rw [i64_in (by omega) (by omega)]; omega
    have wd : IntKind.i64.wrap (((d + 1 : Nat) : Int) - 1) = (d : Int) := by rw [i64_in (by omega) (by omega)]; omega
    have hc := ih v.l[i]
    rw [drop_cons la, List.all_cons] at hall
    generalize v.l[i] = x at *
    refine lx_step (wx_seq (wx_seq ?_))
    refine wx_region fun K hK => ?_
    simp only [evW, evX, evM, evN, evC, far, ↓reduceIte, Nat.reduceEqDiff, Nat.reduceAdd, Nat.reduceLeDiff, Nat.reduceSub, Nat.reduceLT, reduceCtorEq, not_true_eq_false, not_false_eq_true, Int.reduceEq, Int.reduceLT, Int.reduceLE, Int.reduceNeg, hy, valRows_length]
    refine hK _ _ ?_; clear hK K
    refine wx_cond true rfl (fun _ => wx_skip ?_) (fun h => by cases h)
    refine wx_seq (wx_block ?_)
    refine wx_seq ?_
    cases hv : lightV d x with
    | true =>
      rw [hv] at hc
      rw [hv, Bool.true_and] at hall
      refine wx_region fun K hK => ?_
      simp only [evW, evX, evM, evN, evC, far, ↓reduceIte, Nat.reduceEqDiff, Nat.reduceAdd, Nat.reduceLeDiff, Nat.reduceSub, Nat.reduceLT, reduceCtorEq, not_true_eq_false, not_false_eq_true, Int.reduceEq, Int.reduceLT, Int.reduceLE, Int.reduceNeg, h0, Int.toNat_natCast, ga, row_eq, wd, hc]
      refine hK _ _ ?_; clear hK K
      refine wx_cond false rfl (fun h => by cases h) (fun _ => wx_skip ?_)
      refine wx_region fun K hK => ?_
      simp only [evW, evX, evM, evN, evC, far, ↓reduceIte, Nat.reduceEqDiff, Nat.reduceAdd, Nat.reduceLeDiff, Nat.reduceSub, Nat.reduceLT, reduceCtorEq, not_true_eq_false, not_false_eq_true, Int.reduceEq, Int.reduceLT, Int.reduceLE, Int.reduceNeg, w]
      refine hK _ _ ?_; clear hK K
      refine ⟨_, ?_, ihm (i + 1) (by omega) hall⟩
      simp only [evH, evX, evN, ↓reduceIte, Nat.reduceEqDiff, Nat.reduceAdd, Nat.reduceLeDiff, Nat.reduceLT, Nat.reduceSub, reduceCtorEq]
    | false =>
      rw [hv] at hc
      rw [hv, Bool.false_and] at hall
      refine wx_region fun K hK => ?_
      simp only [evW, evX, evM, evN, evC, far, ↓reduceIte, Nat.reduceEqDiff, Nat.reduceAdd, Nat.reduceLeDiff, Nat.reduceSub, Nat.reduceLT, reduceCtorEq, not_true_eq_false, not_false_eq_true, Int.reduceEq, Int.reduceLT, Int.reduceLE, Int.reduceNeg, h0, Int.toNat_natCast, ga, row_eq, wd, hc]
      refine hK _ _ ?_; clear hK K
      refine wx_cond true rfl (fun _ => ?_) (fun h => by cases h)
      refine wx_seq (wx_region fun K hK => ?_)
      simp only [evW, evX, evM, evN, evC, far, ↓reduceIte, Nat.reduceEqDiff, Nat.reduceAdd, Nat.reduceLeDiff, Nat.reduceSub, Nat.reduceLT, reduceCtorEq, not_true_eq_false, not_false_eq_true, Int.reduceEq, Int.reduceLT, Int.reduceLE, Int.reduceNeg]
      refine hK _ _ ?_; clear hK K
      refine wx_ret (hr _ _ hall ?_)
      simp only [evX, evN, ↓reduceIte, Nat.reduceEqDiff]

theorem light_ok (h107 : E 107 = some (.code c107)) : ∀ (d : Nat), d ≤ 100 → ∀ (v : Val), lcall E 107 [v.arg, .d (.i .i64 d)] [] = some (.d (.b (lightV d v)), [])
  | 0, _, v => by
    have h1 : ((0 : Nat) : Int) < 1 := by omega
    refine call_wx h107 ?_
    refine wx_seq (wx_region fun K hK => ?_)
    simp only [evW, evX, evM, evN, evC, far, ↓reduceIte, Nat.reduceEqDiff, Nat.reduceAdd, Nat.reduceLeDiff, Nat.reduceSub, Nat.reduceLT, reduceCtorEq, not_true_eq_false, not_false_eq_true, Int.reduceEq, Int.reduceLT, Int.reduceLE, Int.reduceNeg]
    refine hK _ _ ?_; clear hK K
    refine wx_seq (wx_seq ?_)
    refine wx_region fun K hK => ?_
    simp only [evW, evX, evM, evN, evC, far, ↓reduceIte, Nat.reduceEqDiff, Nat.reduceAdd, Nat.reduceLeDiff, Nat.reduceSub, Nat.reduceLT, reduceCtorEq, not_true_eq_false, not_false_eq_true, Int.reduceEq, Int.reduceLT, Int.reduceLE, Int.reduceNeg, eq_true h1]
    refine hK _ _ ?_; clear hK K
    refine wx_cond true rfl (fun _ => ?_) (fun h => by cases h)
    refine wx_seq (wx_region fun K hK => ?_)
    simp only [evW, evX, evM, evN, evC, far, ↓reduceIte, Nat.reduceEqDiff, Nat.reduceAdd, Nat.reduceLeDiff, Nat.reduceSub, Nat.reduceLT, reduceCtorEq, not_true_eq_false, not_false_eq_true, Int.reduceEq, Int.reduceLT, Int.reduceLE, Int.reduceNeg]
    refine hK _ _ ?_; clear hK K
    refine wx_ret ⟨.inr rfl, ?_⟩
    simp only [evR, evX, evC, evN, ↓reduceIte, Nat.reduceEqDiff, Nat.reduceAdd, Nat.reduceLeDiff, Nat.reduceLT, Nat.reduceSub, reduceCtorEq, far, c107, lightV]
  | d + 1, hd, v => by
    have h1 : ¬ (((d + 1 : Nat) : Int) < 1) := by omega
    have ih := light_ok h107 d (by omega)
    refine call_wx h107 ?_
    refine wx_seq (wx_region fun K hK => ?_)
    simp only [evW, evX, evM, evN, evC, far, ↓reduceIte, Nat.reduceEqDiff, Nat.reduceAdd, Nat.reduceLeDiff, Nat.reduceSub, Nat.reduceLT, reduceCtorEq, not_true_eq_false, not_false_eq_true, Int.reduceEq, Int.reduceLT, Int.reduceLE, Int.reduceNeg]
    refine hK _ _ ?_; clear hK K
    refine wx_seq (wx_seq ?_)
    by_cases hl : (12 : Int) < v.l.length
    · refine wx_region fun K hK => ?_
      simp only [evW, evX, evM, evN, evC, far, ↓reduceIte, Nat.reduceEqDiff, Nat.reduceAdd, Nat.reduceLeDiff, Nat.reduceSub, Nat.reduceLT, reduceCtorEq, not_true_eq_false, not_false_eq_true, Int.reduceEq, Int.reduceLT, Int.reduceLE, Int.reduceNeg, h1, eq_true hl, valRows_length]
      refine hK _ _ ?_; clear hK K
      refine wx_cond true rfl (fun _ => ?_) (fun h => by cases h)
      have e : lightV (d + 1) v = false := by simp only [lightV]; rw [decide_eq_false (by omega)]; rfl
      refine wx_seq (wx_region fun K hK => ?_)
      simp only [evW, evX, evM, evN, evC, far, ↓reduceIte, Nat.reduceEqDiff, Nat.reduceAdd, Nat.reduceLeDiff, Nat.reduceSub, Nat.reduceLT, reduceCtorEq, not_true_eq_false, not_false_eq_true, Int.reduceEq, Int.reduceLT, Int.reduceLE, Int.reduceNeg]
      refine hK _ _ ?_; clear hK K
      refine wx_ret ⟨.inr rfl, ?_⟩
      simp only [evR, evX, evC, evN, ↓reduceIte, Nat.reduceEqDiff, Nat.reduceAdd, Nat.reduceLeDiff, Nat.reduceLT, Nat.reduceSub, reduceCtorEq, far, c107, e]
    by_cases hs : (2000 : Int) < v.s.length
    · refine wx_region fun K hK => ?_
      simp only [evW, evX, evM, evN, evC, far, ↓reduceIte, Nat.reduceEqDiff, Nat.reduceAdd, Nat.reduceLeDiff, Nat.reduceSub, Nat.reduceLT, reduceCtorEq, not_true_eq_false, not_false_eq_true, Int.reduceEq, Int.reduceLT, Int.reduceLE, Int.reduceNeg, h1, hl, eq_true hs, valRows_length]
      refine hK _ _ ?_; clear hK K
      refine wx_cond true rfl (fun _ => ?_) (fun h => by cases h)
      have e : lightV (d + 1) v = false := by simp only [lightV]; rw [decide_eq_false (p := v.s.length ≤ 2000) (by omega)]; simp
      refine wx_seq (wx_region fun K hK => ?_)
      simp only [evW, evX, evM, evN, evC, far, ↓reduceIte, Nat.reduceEqDiff, Nat.reduceAdd, Nat.reduceLeDiff, Nat.reduceSub, Nat.reduceLT, reduceCtorEq, not_true_eq_false, not_false_eq_true, Int.reduceEq, Int.reduceLT, Int.reduceLE, Int.reduceNeg]
      refine hK _ _ ?_; clear hK K
      refine wx_ret ⟨.inr rfl, ?_⟩
      simp only [evR, evX, evC, evN, ↓reduceIte, Nat.reduceEqDiff, Nat.reduceAdd, Nat.reduceLeDiff, Nat.reduceLT, Nat.reduceSub, reduceCtorEq, far, c107, e]
    refine wx_region fun K hK => ?_
    simp only [evW, evX, evM, evN, evC, far, ↓reduceIte, Nat.reduceEqDiff, Nat.reduceAdd, Nat.reduceLeDiff, Nat.reduceSub, Nat.reduceLT, reduceCtorEq, not_true_eq_false, not_false_eq_true, Int.reduceEq, Int.reduceLT, Int.reduceLE, Int.reduceNeg, h1, hl, hs, valRows_length]
    refine hK _ _ ?_; clear hK K
    refine wx_cond false rfl (fun h => by cases h) (fun _ => wx_skip ?_)
    have e : lightV (d + 1) v = v.l.all (lightV d) := by simp only [lightV]; rw [decide_eq_true (by omega), decide_eq_true (p := v.s.length ≤ 2000) (by omega)]; rfl
    rw [e]
    refine wx_seq (wx_seq ?_)
    refine wx_region fun K hK => ?_
    simp only [evW, evX, evM, evN, evC, far, ↓reduceIte, Nat.reduceEqDiff, Nat.reduceAdd, Nat.reduceLeDiff, Nat.reduceSub, Nat.reduceLT, reduceCtorEq, not_true_eq_false, not_false_eq_true, Int.reduceEq, Int.reduceLT, Int.reduceLE, Int.reduceNeg]
    refine hK _ _ ?_; clear hK K
    refine wx_block (wx_loop ?_)
    simp only [evH, evX, evN, ↓reduceIte, Nat.reduceEqDiff, Nat.reduceAdd, Nat.reduceLeDiff, Nat.reduceLT, Nat.reduceSub, reduceCtorEq]
    refine li_loop (by omega) (by omega) ih (fun tm hp ha => ?_) (fun tm hp ha t4 => ?_) v.l.length 0 (by omega) rfl
    · rw [ha]
      refine wx_seq (wx_region fun K hK => ?_)
      simp only [evW, evX, evM, evN, evC, far, ↓reduceIte, Nat.reduceEqDiff, Nat.reduceAdd, Nat.reduceLeDiff, Nat.reduceSub, Nat.reduceLT, reduceCtorEq, not_true_eq_false, not_false_eq_true, Int.reduceEq, Int.reduceLT, Int.reduceLE, Int.reduceNeg]
      refine hK _ _ ?_; clear hK K
      refine wx_ret ⟨.inr rfl, ?_⟩
      simp only [evR, evX, evC, evN, ↓reduceIte, Nat.reduceEqDiff, Nat.reduceAdd, Nat.reduceLeDiff, Nat.reduceLT, Nat.reduceSub, reduceCtorEq, far, c107]
    · rw [ha]
      refine ⟨.inr rfl, ?_⟩
      simp only [evR, evX, evC, evN, ↓reduceIte, Nat.reduceEqDiff, Nat.reduceAdd, Nat.reduceLeDiff, Nat.reduceLT, Nat.reduceSub, reduceCtorEq, far, c107, t4]

def lb : Nat → Nat
  | 0 => 0
  | d + 1 => 126 + 12 * lb d

theorem light_fit : ∀ (d : Nat) (v : Val), lightV d v = true → Small v ∧ szN v ≤ lb d
  | 0, v, h => by cases h
  | d + 1, v, h => by
    simp only [lightV, Bool.and_eq_true, decide_eq_true_eq, List.all_eq_true] at h
    obtain ⟨⟨h1, h2⟩, h3⟩ := h
    refine ⟨.mk (by omega) (fun x hx => (light_fit d x (h3 x hx)).1), ?_⟩
    have hs : ∀ l : List Val, (∀ x ∈ l, szN x ≤ lb d) → szL l ≤ l.length * lb d := by
      intro l
      induction l with
      | nil => intro _; simp [szL]
      | cons x r ih =>
        intro h
        have h5 := ih (fun y hy => h y (by simp [hy]))
        have h6 := h x (by simp)
        simp only [szL, List.length_cons, Nat.add_mul]; omega
    have h4 := hs v.l (fun x hx => (light_fit d x (h3 x hx)).2)
    have h5 : v.l.length * lb d ≤ 12 * lb d := Nat.mul_le_mul_right _ h1
    rw [szN_eq]
    simp only [lb]
    omega

def al1 : CCode := match c100.body with
  | .seq _ (.seq _ (.seq _ (.seq _ (.seq (.seq _ (.block _ (.loop _ c))) _)))) => c
  | _ => .skip
def al2 : CCode := match al1 with
  | .seq _ (.seq (.block _ (.seq _ (.seq _ (.seq _ (.block _ (.loop _ c)))))) _) => c
  | _ => .skip

structure AllOk (vs : List Val) : Prop where
  len : vs.length = 4
  small : ∀ x ∈ vs, Small x
  fit : ∀ x ∈ vs, Fit x

set_option maxHeartbeats 1000000 in
theorem al2_loop (K : ValOk E) {va vb : Val} {bx by' : List UInt8} {k1 k2 : Nat} {vs : List Val} (hv : AllOk vs) {i : Nat} (hi : i < vs.length) {x : Val} (hxi : vs[i]? = some x) {Q : Ex → St → Prop} (hx : ∀ tm, look tm 9 = .own 18 0 4 (valRows vs) → look tm 10 = .d (.i .i64 i) → Q (.exit 2) ⟨tm, [vbox va, vbox vb, pbox bx k1, none, none, none, none, none, none, none, pbox by' k2, none, none, none, none, none, none, none, some (.tok 0 4)]⟩) :
    ∀ (m k : Nat), k + m = 4 →
      LX E al2 ⟨[9, 10, 11, 12], [], [], [], [], true⟩ 19 ⟨[(9, .own 18 0 4 (valRows vs)), (10, .d (.i .i64 i)), (11, .d (.b (mayR x))), (12, .d (.i .i64 k))], [vbox va, vbox vb, pbox bx k1, none, none, none, none, none, none, none, pbox by' k2, none, none, none, none, none, none, none, some (.tok 0 4)]⟩ Q := by
  intro m
  induction m with
  | zero =>
    intro k hk
    have hn : ¬ ((k : Int) < 4) := by omega
    refine lx_step (wx_seq (wx_seq ?_))
    refine wx_region fun K hK => ?_
    simp only [evW, evX, evM, evN, evC, far, ↓reduceIte, Nat.reduceEqDiff, Nat.reduceAdd, Nat.reduceLeDiff, Nat.reduceSub, Nat.reduceLT, reduceCtorEq, not_true_eq_false, not_false_eq_true, Int.reduceEq, Int.reduceLT, Int.reduceLE, Int.reduceNeg, hn]
    refine hK _ _ ?_; clear hK K
    refine wx_cond false rfl (fun h => by cases h) (fun _ => wx_exit ?_)
    exact hx _ rfl rfl
  | succ m ih =>
    intro k hk
    have hy : (k : Int) < 4 := by omega
    have h4 := hv.len
    have lk : k < vs.length := by omega
    have h0 : (0 : Int) ≤ k := by omega
    have hi0 : (0 : Int) ≤ i := by omega
    have ga : (valRows vs)[i]? = some (Val.row x) := by rw [valRows_get, hxi]; rfl
    have gb : (valRows vs)[k]? = some (Val.row vs[k]) := by rw [valRows_get, List.getElem?_eq_getElem lk]; rfl
    have sx := hv.small x (List.mem_of_getElem? hxi)
    have sy := hv.small _ (List.getElem_mem lk)
    have fy := hv.fit _ (List.getElem_mem lk)
    have w : IntKind.i64.wrap ((k : Int) + 1) = ((k + 1 : Nat) : Int) := by rw [i64_in (by omega) (by omega)]; omega
    have m1 := K.refMay _ sy fy
    have c1 := K.cmp x vs[k] sx sy
    have c2 := K.refCmp x vs[k] sx sy
    generalize vs[k] = y at *
    refine lx_step (wx_seq (wx_seq ?_))
    refine wx_region fun K hK => ?_
    simp only [evW, evX, evM, evN, evC, far, ↓reduceIte, Nat.reduceEqDiff, Nat.reduceAdd, Nat.reduceLeDiff, Nat.reduceSub, Nat.reduceLT, reduceCtorEq, not_true_eq_false, not_false_eq_true, Int.reduceEq, Int.reduceLT, Int.reduceLE, Int.reduceNeg, hy]
    refine hK _ _ ?_; clear hK K
    refine wx_cond true rfl (fun _ => wx_skip ?_) (fun h => by cases h)
    refine wx_seq (wx_block ?_)
    refine wx_seq ?_
    cases hmx : mayR x with
    | false =>
      refine wx_regionT fun K hK => ?_
      simp only [evW, evX, evM, evN, evC, far, ↓reduceIte, Nat.reduceEqDiff, Nat.reduceAdd, Nat.reduceLeDiff, Nat.reduceSub, Nat.reduceLT, reduceCtorEq, not_true_eq_false, not_false_eq_true, Int.reduceEq, Int.reduceLT, Int.reduceLE, Int.reduceNeg]
      refine hK _ _ (by rfl) ?_; clear hK K
      refine wx_cond false rfl (fun h => by cases h) (fun _ => wx_skip ?_)
      refine wx_region fun K hK => ?_
      simp only [evW, evX, evM, evN, evC, far, ↓reduceIte, Nat.reduceEqDiff, Nat.reduceAdd, Nat.reduceLeDiff, Nat.reduceSub, Nat.reduceLT, reduceCtorEq, not_true_eq_false, not_false_eq_true, Int.reduceEq, Int.reduceLT, Int.reduceLE, Int.reduceNeg, w]
      refine hK _ _ ?_; clear hK K
      rw [← hmx]
      refine ⟨_, ?_, ih (k + 1) (by omega)⟩
      rw [hmx]
      simp only [evH, evX, evN, ↓reduceIte, Nat.reduceEqDiff, Nat.reduceAdd, Nat.reduceLeDiff, Nat.reduceLT, Nat.reduceSub, reduceCtorEq]
    | true =>
      cases hmy : mayR y with
      | false =>
        rw [hmy] at m1
        refine wx_regionT fun K hK => ?_
        simp only [evW, evX, evM, evN, evC, far, ↓reduceIte, Nat.reduceEqDiff, Nat.reduceAdd, Nat.reduceLeDiff, Nat.reduceSub, Nat.reduceLT, reduceCtorEq, not_true_eq_false, not_false_eq_true, Int.reduceEq, Int.reduceLT, Int.reduceLE, Int.reduceNeg, h0, hi0, Int.toNat_natCast, ga, gb, row_eq, m1]
        refine hK _ _ (by rfl) ?_; clear hK K
        refine wx_cond false rfl (fun h => by cases h) (fun _ => wx_skip ?_)
        refine wx_region fun K hK => ?_
        simp only [evW, evX, evM, evN, evC, far, ↓reduceIte, Nat.reduceEqDiff, Nat.reduceAdd, Nat.reduceLeDiff, Nat.reduceSub, Nat.reduceLT, reduceCtorEq, not_true_eq_false, not_false_eq_true, Int.reduceEq, Int.reduceLT, Int.reduceLE, Int.reduceNeg, w]
        refine hK _ _ ?_; clear hK K
        rw [hmx] at ih
        refine ⟨_, ?_, ih (k + 1) (by omega)⟩
        simp only [evH, evX, evN, ↓reduceIte, Nat.reduceEqDiff, Nat.reduceAdd, Nat.reduceLeDiff, Nat.reduceLT, Nat.reduceSub, reduceCtorEq]
      | true =>
        rw [hmy] at m1
        refine wx_regionT fun K hK => ?_
        simp only [evW, evX, evM, evN, evC, far, ↓reduceIte, Nat.reduceEqDiff, Nat.reduceAdd, Nat.reduceLeDiff, Nat.reduceSub, Nat.reduceLT, reduceCtorEq, not_true_eq_false, not_false_eq_true, Int.reduceEq, Int.reduceLT, Int.reduceLE, Int.reduceNeg, h0, hi0, Int.toNat_natCast, ga, gb, row_eq, m1, c1, c2]
        refine hK _ _ (by rfl) ?_; clear hK K
        refine wx_cond false rfl (fun h => by cases h) (fun _ => wx_skip ?_)
        refine wx_region fun K hK => ?_
        simp only [evW, evX, evM, evN, evC, far, ↓reduceIte, Nat.reduceEqDiff, Nat.reduceAdd, Nat.reduceLeDiff, Nat.reduceSub, Nat.reduceLT, reduceCtorEq, not_true_eq_false, not_false_eq_true, Int.reduceEq, Int.reduceLT, Int.reduceLE, Int.reduceNeg, w]
        refine hK _ _ ?_; clear hK K
        rw [hmx] at ih
        refine ⟨_, ?_, ih (k + 1) (by omega)⟩
        simp only [evH, evX, evN, ↓reduceIte, Nat.reduceEqDiff, Nat.reduceAdd, Nat.reduceLeDiff, Nat.reduceLT, Nat.reduceSub, reduceCtorEq]

set_option maxHeartbeats 1000000 in
theorem al1_loop (K : ValOk E) {va vb : Val} {bx by' : List UInt8} {k1 k2 : Nat} {vs : List Val} (hv : AllOk vs) {Q : Ex → St → Prop} (hx : ∀ tm hp, Q (.exit 0) ⟨tm, hp⟩) :
    ∀ (m i : Nat), i + m = 4 →
      LX E al1 ⟨[9, 10], [], [], [], [], true⟩ 19 ⟨[(9, .own 18 0 4 (valRows vs)), (10, .d (.i .i64 i))], [vbox va, vbox vb, pbox bx k1, none, none, none, none, none, none, none, pbox by' k2, none, none, none, none, none, none, none, some (.tok 0 4)]⟩ Q := by
  intro m
  induction m with
  | zero =>
    intro i hi
    have hn : ¬ ((i : Int) < 4) := by omega
    refine lx_step (wx_seq (wx_seq ?_))
    refine wx_region fun K hK => ?_
    simp only [evW, evX, evM, evN, evC, far, ↓reduceIte, Nat.reduceEqDiff, Nat.reduceAdd, Nat.reduceLeDiff, Nat.reduceSub, Nat.reduceLT, reduceCtorEq, not_true_eq_false, not_false_eq_true, Int.reduceEq, Int.reduceLT, Int.reduceLE, Int.reduceNeg, hn]
    refine hK _ _ ?_; clear hK K
    refine wx_cond false rfl (fun h => by cases h) (fun _ => wx_exit ?_)
    exact hx _ _
  | succ m ih =>
    intro i hi
    have hy : (i : Int) < 4 := by omega
    have h4 := hv.len
    have la : i < vs.length := by omega
    have h0 : (0 : Int) ≤ i := by omega
    have ga : (valRows vs)[i]? = some (Val.row vs[i]) := by rw [valRows_get, List.getElem?_eq_getElem la]; rfl
    have hxi : vs[i]? = some vs[i] := List.getElem?_eq_getElem la
    have sx := hv.small _ (List.getElem_mem la)
    have fx := hv.fit _ (List.getElem_mem la)
    have w : IntKind.i64.wrap ((i : Int) + 1) = ((i + 1 : Nat) : Int) := by rw [i64_in (by omega) (by omega)]; omega
    have m1 := K.refMay _ sx fx
    have m2 := K.may _ sx
    have hmm : (decide (sizeV vs[i] ≤ 60) && mayV vs[i]) = mayR vs[i] := rfl
    rw [hmm] at m2
    have s1 := K.size _ sx
    have s2 := K.refSize _ sx
    generalize vs[i] = x at *
    refine lx_step (wx_seq (wx_seq ?_))
    refine wx_region fun K hK => ?_
    simp only [evW, evX, evM, evN, evC, far, ↓reduceIte, Nat.reduceEqDiff, Nat.reduceAdd, Nat.reduceLeDiff, Nat.reduceSub, Nat.reduceLT, reduceCtorEq, not_true_eq_false, not_false_eq_true, Int.reduceEq, Int.reduceLT, Int.reduceLE, Int.reduceNeg, hy]
    refine hK _ _ ?_; clear hK K
    refine wx_cond true rfl (fun _ => wx_skip ?_) (fun h => by cases h)
    refine wx_seq (wx_block ?_)
    refine wx_seq (wx_region fun K hK => ?_)
    simp only [evW, evX, evM, evN, evC, far, ↓reduceIte, Nat.reduceEqDiff, Nat.reduceAdd, Nat.reduceLeDiff, Nat.reduceSub, Nat.reduceLT, reduceCtorEq, not_true_eq_false, not_false_eq_true, Int.reduceEq, Int.reduceLT, Int.reduceLE, Int.reduceNeg, h0, Int.toNat_natCast, ga, row_eq, m1]
    refine hK _ _ ?_; clear hK K
    refine wx_seq (wx_seq ?_)
    refine wx_regionT fun K hK => ?_
    simp only [evW, evX, evM, evN, evC, far, ↓reduceIte, Nat.reduceEqDiff, Nat.reduceAdd, Nat.reduceLeDiff, Nat.reduceSub, Nat.reduceLT, reduceCtorEq, not_true_eq_false, not_false_eq_true, Int.reduceEq, Int.reduceLT, Int.reduceLE, Int.reduceNeg, h0, Int.toNat_natCast, ga, row_eq, m2, s1, s2]
    refine hK _ _ (by rfl) ?_; clear hK K
    refine wx_cond false rfl (fun h => by cases h) (fun _ => wx_skip ?_)
    refine wx_seq ?_
    refine wx_region fun K hK => ?_
    simp only [evW, evX, evM, evN, evC, far, ↓reduceIte, Nat.reduceEqDiff, Nat.reduceAdd, Nat.reduceLeDiff, Nat.reduceSub, Nat.reduceLT, reduceCtorEq, not_true_eq_false, not_false_eq_true, Int.reduceEq, Int.reduceLT, Int.reduceLE, Int.reduceNeg]
    refine hK _ _ ?_; clear hK K
    refine wx_block (wx_loop ?_)
    simp only [evH, evX, evN, ↓reduceIte, Nat.reduceEqDiff, Nat.reduceAdd, Nat.reduceLeDiff, Nat.reduceLT, Nat.reduceSub, reduceCtorEq]
    refine al2_loop K hv la hxi (fun tm t9 t10 => ?_) 4 0 (by omega)
    refine wx_region fun K hK => ?_
    simp only [evW, evX, evM, evN, evC, far, ↓reduceIte, Nat.reduceEqDiff, Nat.reduceAdd, Nat.reduceLeDiff, Nat.reduceSub, Nat.reduceLT, reduceCtorEq, not_true_eq_false, not_false_eq_true, Int.reduceEq, Int.reduceLT, Int.reduceLE, Int.reduceNeg, t10, w]
    refine hK _ _ ?_; clear hK K
    refine ⟨_, ?_, ih (i + 1) (by omega)⟩
    simp only [evH, evX, evN, ↓reduceIte, Nat.reduceEqDiff, Nat.reduceAdd, Nat.reduceLeDiff, Nat.reduceLT, Nat.reduceSub, reduceCtorEq, t9]

set_option maxHeartbeats 1000000 in
theorem all_ok (h100 : E 100 = some (.code c100)) (K : ValOk E) (h107 : E 107 = some (.code c107)) (a b : Val) (x y : List UInt8) : ∃ h', lcall E 100 [a.arg, b.arg, .d (.l 1 (byteRows x)), .d (.l 1 (byteRows y))] [] = some (.d (.b true), h') := by
  have hb := K.begun
  have la := light_ok h107 5 (by omega) a
  have lbb := light_ok h107 5 (by omega) b
  have d5 : ((5 : Nat) : Int) = 5 := rfl
  rw [d5] at la lbb
  refine (call_wxP h100 (R := fun x => x.1 = .d (.b true)) ?_).elim fun x hx => ⟨x.2, by rw [hx.1, ← hx.2]⟩
  refine wx_seq (wx_region fun K hK => ?_)
  simp only [evW, evX, evM, evN, evC, far, ↓reduceIte, Nat.reduceEqDiff, Nat.reduceAdd, Nat.reduceLeDiff, Nat.reduceSub, Nat.reduceLT, reduceCtorEq, not_true_eq_false, not_false_eq_true, Int.reduceEq, Int.reduceLT, Int.reduceLE, Int.reduceNeg]
  refine hK _ _ ?_; clear hK K
  refine wx_seq (wx_seq ?_)
  refine wx_region fun K hK => ?_
  simp only [evW, evX, evM, evN, evC, far, ↓reduceIte, Nat.reduceEqDiff, Nat.reduceAdd, Nat.reduceLeDiff, Nat.reduceSub, Nat.reduceLT, reduceCtorEq, not_true_eq_false, not_false_eq_true, Int.reduceEq, Int.reduceLT, Int.reduceLE, Int.reduceNeg, hb]
  refine hK _ _ ?_; clear hK K
  refine wx_cond false rfl (fun h => by cases h) (fun _ => wx_skip ?_)
  refine wx_seq (wx_seq ?_)
  cases ha : lightV 5 a with
  | false =>
    rw [ha] at la
    refine wx_region fun K hK => ?_
    simp only [evW, evX, evM, evN, evC, far, ↓reduceIte, Nat.reduceEqDiff, Nat.reduceAdd, Nat.reduceLeDiff, Nat.reduceSub, Nat.reduceLT, reduceCtorEq, not_true_eq_false, not_false_eq_true, Int.reduceEq, Int.reduceLT, Int.reduceLE, Int.reduceNeg, la]
    refine hK _ _ ?_; clear hK K
    refine wx_cond true rfl (fun _ => ?_) (fun h => by cases h)
    refine wx_seq (wx_region fun K hK => ?_)
    simp only [evW, evX, evM, evN, evC, far, ↓reduceIte, Nat.reduceEqDiff, Nat.reduceAdd, Nat.reduceLeDiff, Nat.reduceSub, Nat.reduceLT, reduceCtorEq, not_true_eq_false, not_false_eq_true, Int.reduceEq, Int.reduceLT, Int.reduceLE, Int.reduceNeg]
    refine hK _ _ ?_; clear hK K
    refine wx_ret ⟨.inr rfl, (.d (.b true), []), ?_, rfl⟩
    simp only [evR, evX, evC, evN, ↓reduceIte, Nat.reduceEqDiff, Nat.reduceAdd, Nat.reduceLeDiff, Nat.reduceLT, Nat.reduceSub, reduceCtorEq, far, c100]
  | true =>
  rw [ha] at la
  cases hbb : lightV 5 b with
  | false =>
    rw [hbb] at lbb
    refine wx_region fun K hK => ?_
    simp only [evW, evX, evM, evN, evC, far, ↓reduceIte, Nat.reduceEqDiff, Nat.reduceAdd, Nat.reduceLeDiff, Nat.reduceSub, Nat.reduceLT, reduceCtorEq, not_true_eq_false, not_false_eq_true, Int.reduceEq, Int.reduceLT, Int.reduceLE, Int.reduceNeg, la, lbb]
    refine hK _ _ ?_; clear hK K
    refine wx_cond true rfl (fun _ => ?_) (fun h => by cases h)
    refine wx_seq (wx_region fun K hK => ?_)
    simp only [evW, evX, evM, evN, evC, far, ↓reduceIte, Nat.reduceEqDiff, Nat.reduceAdd, Nat.reduceLeDiff, Nat.reduceSub, Nat.reduceLT, reduceCtorEq, not_true_eq_false, not_false_eq_true, Int.reduceEq, Int.reduceLT, Int.reduceLE, Int.reduceNeg]
    refine hK _ _ ?_; clear hK K
    refine wx_ret ⟨.inr rfl, (.d (.b true), []), ?_, rfl⟩
    simp only [evR, evX, evC, evN, ↓reduceIte, Nat.reduceEqDiff, Nat.reduceAdd, Nat.reduceLeDiff, Nat.reduceLT, Nat.reduceSub, reduceCtorEq, far, c100]
  | true =>
  rw [hbb] at lbb
  by_cases hx : (60 : Int) < x.length
  · refine wx_region fun K hK => ?_
    simp only [evW, evX, evM, evN, evC, far, ↓reduceIte, Nat.reduceEqDiff, Nat.reduceAdd, Nat.reduceLeDiff, Nat.reduceSub, Nat.reduceLT, reduceCtorEq, not_true_eq_false, not_false_eq_true, Int.reduceEq, Int.reduceLT, Int.reduceLE, Int.reduceNeg, la, lbb, eq_true hx, byteRows_length]
    refine hK _ _ ?_; clear hK K
    refine wx_cond true rfl (fun _ => ?_) (fun h => by cases h)
    refine wx_seq (wx_region fun K hK => ?_)
    simp only [evW, evX, evM, evN, evC, far, ↓reduceIte, Nat.reduceEqDiff, Nat.reduceAdd, Nat.reduceLeDiff, Nat.reduceSub, Nat.reduceLT, reduceCtorEq, not_true_eq_false, not_false_eq_true, Int.reduceEq, Int.reduceLT, Int.reduceLE, Int.reduceNeg]
    refine hK _ _ ?_; clear hK K
    refine wx_ret ⟨.inr rfl, (.d (.b true), []), ?_, rfl⟩
    simp only [evR, evX, evC, evN, ↓reduceIte, Nat.reduceEqDiff, Nat.reduceAdd, Nat.reduceLeDiff, Nat.reduceLT, Nat.reduceSub, reduceCtorEq, far, c100]
  by_cases hy : (60 : Int) < y.length
  · refine wx_region fun K hK => ?_
    simp only [evW, evX, evM, evN, evC, far, ↓reduceIte, Nat.reduceEqDiff, Nat.reduceAdd, Nat.reduceLeDiff, Nat.reduceSub, Nat.reduceLT, reduceCtorEq, not_true_eq_false, not_false_eq_true, Int.reduceEq, Int.reduceLT, Int.reduceLE, Int.reduceNeg, la, lbb, hx, eq_true hy, byteRows_length]
    refine hK _ _ ?_; clear hK K
    refine wx_cond true rfl (fun _ => ?_) (fun h => by cases h)
    refine wx_seq (wx_region fun K hK => ?_)
    simp only [evW, evX, evM, evN, evC, far, ↓reduceIte, Nat.reduceEqDiff, Nat.reduceAdd, Nat.reduceLeDiff, Nat.reduceSub, Nat.reduceLT, reduceCtorEq, not_true_eq_false, not_false_eq_true, Int.reduceEq, Int.reduceLT, Int.reduceLE, Int.reduceNeg]
    refine hK _ _ ?_; clear hK K
    refine wx_ret ⟨.inr rfl, (.d (.b true), []), ?_, rfl⟩
    simp only [evR, evX, evC, evN, ↓reduceIte, Nat.reduceEqDiff, Nat.reduceAdd, Nat.reduceLeDiff, Nat.reduceLT, Nat.reduceSub, reduceCtorEq, far, c100]
  refine wx_region fun K hK => ?_
  simp only [evW, evX, evM, evN, evC, far, ↓reduceIte, Nat.reduceEqDiff, Nat.reduceAdd, Nat.reduceLeDiff, Nat.reduceSub, Nat.reduceLT, reduceCtorEq, not_true_eq_false, not_false_eq_true, Int.reduceEq, Int.reduceLT, Int.reduceLE, Int.reduceNeg, la, lbb, hx, hy, byteRows_length]
  refine hK _ _ ?_; clear hK K
  refine wx_cond false rfl (fun h => by cases h) (fun _ => wx_skip ?_)
  obtain ⟨c, n1, c1, _, g1⟩ := K.gen x (by omega) 3 (by omega) 0 (by omega)
  obtain ⟨d, n2, c2, _, g2⟩ := K.gen y (by omega) 3 (by omega) 0 (by omega)
  have m1 := K.made x
  have m2 := K.made y
  have d3 : ((3 : Nat) : Int) = 3 := rfl
  rw [d3] at c1 c2
  have fa := light_fit 5 a ha
  have fb := light_fit 5 b hbb
  have e5 : lb 5 ≤ 1000000000000 := by decide
  have e3 : bnd 3 ≤ 1000000000000 := by decide
  have hall : AllOk [a, b, c, d] := ⟨rfl, fun z hz => by
    simp only [List.mem_cons, List.not_mem_nil, or_false] at hz
    rcases hz with rfl | rfl | rfl | rfl
    · exact fa.1
    · exact fb.1
    · exact g1.small
    · exact g2.small, fun z hz => by
    simp only [List.mem_cons, List.not_mem_nil, or_false] at hz
    unfold Fit
    rcases hz with rfl | rfl | rfl | rfl
    · exact Nat.le_trans fa.2 e5
    · exact Nat.le_trans fb.2 e5
    · exact Nat.le_trans g1.size e3
    · exact Nat.le_trans g2.size e3⟩
  have hrow : valRows [a, b, c, d] = [[.i .i64 a.kind, .i .i64 a.i, .s a.s, .l 4 (valRows a.l)], [.i .i64 b.kind, .i .i64 b.i, .s b.s, .l 4 (valRows b.l)], [.i .i64 c.kind, .i .i64 c.i, .s c.s, .l 4 (valRows c.l)], [.i .i64 d.kind, .i .i64 d.i, .s d.s, .l 4 (valRows d.l)]] := by
    simp only [valRows, row_eq]
  refine wx_seq (wx_regionT fun K hK => ?_)
  simp only [evW, evX, evM, evN, evC, far, ↓reduceIte, Nat.reduceEqDiff, Nat.reduceAdd, Nat.reduceLeDiff, Nat.reduceSub, Nat.reduceLT, reduceCtorEq, not_true_eq_false, not_false_eq_true, Int.reduceEq, Int.reduceLT, Int.reduceLE, Int.reduceNeg, m1, m2, c1, c2, range_one]
  refine hK _ _ (by rfl) ?_; clear hK K
  refine wx_seq (wx_seq ?_)
  refine wx_region fun K hK => ?_
  simp only [evW, evX, evM, evN, evC, far, ↓reduceIte, Nat.reduceEqDiff, Nat.reduceAdd, Nat.reduceLeDiff, Nat.reduceSub, Nat.reduceLT, reduceCtorEq, not_true_eq_false, not_false_eq_true, Int.reduceEq, Int.reduceLT, Int.reduceLE, Int.reduceNeg]
  refine hK _ _ ?_; clear hK K
  refine wx_block (wx_loop ?_)
  simp only [evH, evX, evN, ↓reduceIte, Nat.reduceEqDiff, Nat.reduceAdd, Nat.reduceLeDiff, Nat.reduceLT, Nat.reduceSub, reduceCtorEq]
  rw [← hrow]
  refine al1_loop K hall (fun tm hp => ?_) 4 0 (by omega)
  refine wx_seq (wx_region fun K hK => ?_)
  simp only [evW, evX, evM, evN, evC, far, ↓reduceIte, Nat.reduceEqDiff, Nat.reduceAdd, Nat.reduceLeDiff, Nat.reduceSub, Nat.reduceLT, reduceCtorEq, not_true_eq_false, not_false_eq_true, Int.reduceEq, Int.reduceLT, Int.reduceLE, Int.reduceNeg]
  refine hK _ _ ?_; clear hK K
  refine wx_ret ⟨.inr rfl, (.d (.b true), []), ?_, rfl⟩
  simp only [evR, evX, evC, evN, ↓reduceIte, Nat.reduceEqDiff, Nat.reduceAdd, Nat.reduceLeDiff, Nat.reduceLT, Nat.reduceSub, reduceCtorEq, far, c100]
end Ab

/-
  Which values may be: a closed statement.
-/
namespace Ab
open Go
set_option linter.unusedVariables false
set_option linter.unusedSimpArgs false
set_option maxRecDepth 100000
variable {E : Nat → Option Fn}

theorem pair122_ok (h122 : E 122 = some (.code c122)) (a b : Val) : lcall E 122 [a.arg, b.arg] [] = some ((Val.mk 4 0 [] [a, b]).arg, []) := by
  refine call_wx h122 ?_
  refine wx_seq (wx_region fun K hK => ?_)
  simp only [evW, evX, evM, evN, evC, far, ↓reduceIte, Nat.reduceEqDiff, Nat.reduceAdd, Nat.reduceLeDiff, Nat.reduceSub, Nat.reduceLT, reduceCtorEq, not_true_eq_false, not_false_eq_true, Int.reduceEq, Int.reduceLT, Int.reduceLE, Int.reduceNeg]
  refine hK _ _ ?_; clear hK K
  refine wx_seq (wx_region fun K hK => ?_)
  simp only [evW, evX, evM, evN, evC, far, ↓reduceIte, Nat.reduceEqDiff, Nat.reduceAdd, Nat.reduceLeDiff, Nat.reduceSub, Nat.reduceLT, reduceCtorEq, not_true_eq_false, not_false_eq_true, Int.reduceEq, Int.reduceLT, Int.reduceLE, Int.reduceNeg]
  refine hK _ _ ?_; clear hK K
  refine wx_ret ⟨.inr rfl, ?_⟩
  simp only [evR, evX, evC, evN, ↓reduceIte, Nat.reduceEqDiff, Nat.reduceAdd, Nat.reduceLeDiff, Nat.reduceLT, Nat.reduceSub, reduceCtorEq, far, c122, Val.arg, Val.kind, Val.i, Val.s, Val.l, valRows, row_eq]

theorem valRows_rep (n : Nat) (v : Val) : valRows (List.replicate n v) = List.replicate n v.row := by rw [valRows_eq, List.map_replicate]

def smallB : Nat → Val → Bool
  | 0, _ => false
  | d + 1, v => decide (v.l.length ≤ 1000) && v.l.all (smallB d)

theorem smallB_ok : ∀ (d : Nat) (v : Val), smallB d v = true → Small v
  | 0, v, h => by cases h
  | d + 1, v, h => by
    simp only [smallB, Bool.and_eq_true, decide_eq_true_eq, List.all_eq_true] at h
    exact .mk h.1 (fun x hx => smallB_ok d x (h.2 x hx))

def fOne : Val := .mk 1 1 [] []
def fS : Val := .mk 3 0 [97] []
def fT : Val := .mk 3 0 [98] []
def fPair : Val := .mk 4 0 [] [fS, fOne]
def fGood : List Val := [fOne, fS, .mk 3 0 [] [], .mk 2 1 [] [], .mk 4 0 [] [fT, fS, fS], .mk 5 0 [] [fOne, fS, fT], .mk 6 0 [] [fPair, .mk 4 0 [] [fT, fPair]], .mk 7 13 [] [], .mk 3 0 (repB 959) []]
def fBad : List Val := [.mk 0 0 [] [], .mk 8 0 [] [], .mk (-1) 0 [] [], .mk 1 0 [97] [], .mk 2 2 [] [], .mk 2 (-1) [] [], .mk 3 1 [] [], .mk 4 1 [] [], .mk 4 0 [] [.mk 0 0 [] []], .mk 4 0 [] [.mk 7 1 [] []], .mk 5 0 [] [fS, fS], .mk 5 0 [] [fT, fS],
  .mk 6 0 [] [fOne], .mk 6 0 [] [.mk 4 0 [] [fOne, fS]], .mk 6 0 [] [fPair, fPair], .mk 6 0 [] [.mk 4 0 [] [fT, fS], fPair], .mk 7 0 [] [], .mk 7 14 [] [], .mk 3 0 (repB 960) [], .mk 4 0 [] (List.replicate 60 (.mk 0 0 [] []))]

def mayF (v : Val) : Bool := decide (sizeV v ≤ 60) && mayV v

theorem good_may : fGood.all mayF = true := by decide +kernel
theorem bad_may : fBad.all (fun v => !mayF v) = true := by decide +kernel
theorem good_small : fGood.all (smallB 5) = true := by decide +kernel
theorem bad_small : fBad.all (smallB 5) = true := by decide +kernel
theorem pair_size : sizeV fPair = 3 := by decide +kernel
theorem long_size : sizeV (.mk 3 0 (repB 959) []) = 60 := by decide +kernel

def fo1 : CCode := match c103.body with
  | .seq _ (.seq _ (.seq _ (.seq _ (.seq _ (.seq _ (.seq (.seq _ (.block _ (.loop _ c))) _)))))) => c
  | _ => .skip
def fo2 : CCode := match c103.body with
  | .seq _ (.seq _ (.seq _ (.seq _ (.seq _ (.seq _ (.seq _ (.seq (.seq _ (.block _ (.loop _ c))) _))))))) => c
  | _ => .skip

set_option maxHeartbeats 1000000 in
theorem fo1_loop (K : ValOk E) {gs bs : List Val} (hl : gs.length ≤ 1000) (hs : ∀ x ∈ gs, Small x) (hm : ∀ x ∈ gs, mayF x = true) {Q : Ex → St → Prop}
    (hx : ∀ tm, look tm 4 = .ptr 3 0 → look tm 5 = .own 8 0 4 (valRows gs) → look tm 6 = .own 19 0 4 (valRows bs) → Q (.exit 0) ⟨tm, [some (.box [.d (.i .i64 1), .d (.i .i64 1), .d (.s []), .nil 4]), some (.box [.d (.i .i64 3), .d (.i .i64 0), .d (.s [97]), .nil 4]), some (.box [.d (.i .i64 3), .d (.i .i64 0), .d (.s [98]), .nil 4]), some (.box [.d (.i .i64 4), .d (.i .i64 0), .d (.s []), .d (.l 4 [[.i .i64 3, .i .i64 0, .s [97], .l 4 []], [.i .i64 1, .i .i64 1, .s [], .l 4 []]])]), some (.tok 0 4), some (.tok 0 4), some (.tok 0 4), some (.tok 0 1), some (.tok 0 4), some (.tok 0 4), some (.tok 0 4), some (.tok 0 4), some (.tok 0 4), some (.tok 0 4), some (.tok 0 4), some (.tok 0 4), some (.tok 0 4), some (.tok 0 1), some (.tok 0 4), some (.tok 0 4)]⟩) :
    ∀ (m i : Nat), i + m = gs.length →
      LX E fo1 ⟨[4, 5, 6, 7], [], [], [], [], true⟩ 20 ⟨[(4, .ptr 3 0), (5, .own 8 0 4 (valRows gs)), (6, .own 19 0 4 (valRows bs)), (7, .d (.i .i64 i))], [some (.box [.d (.i .i64 1), .d (.i .i64 1), .d (.s []), .nil 4]), some (.box [.d (.i .i64 3), .d (.i .i64 0), .d (.s [97]), .nil 4]), some (.box [.d (.i .i64 3), .d (.i .i64 0), .d (.s [98]), .nil 4]), some (.box [.d (.i .i64 4), .d (.i .i64 0), .d (.s []), .d (.l 4 [[.i .i64 3, .i .i64 0, .s [97], .l 4 []], [.i .i64 1, .i .i64 1, .s [], .l 4 []]])]), some (.tok 0 4), some (.tok 0 4), some (.tok 0 4), some (.tok 0 1), some (.tok 0 4), some (.tok 0 4), some (.tok 0 4), some (.tok 0 4), some (.tok 0 4), some (.tok 0 4), some (.tok 0 4), some (.tok 0 4), some (.tok 0 4), some (.tok 0 1), some (.tok 0 4), some (.tok 0 4)]⟩ Q := by
  intro m
  induction m with
  | zero =>
    intro i hi
    have hn : ¬ ((i : Int) < gs.length) := by omega
    refine lx_step (wx_seq (wx_seq ?_))
    refine wx_region fun K hK => ?_
    simp only [evW, evX, evM, evN, evC, far, ↓reduceIte, Nat.reduceEqDiff, Nat.reduceAdd, Nat.reduceLeDiff, Nat.reduceSub, Nat.reduceLT, reduceCtorEq, not_true_eq_false, not_false_eq_true, Int.reduceEq, Int.reduceLT, Int.reduceLE, Int.reduceNeg, hn, valRows_length]
    refine hK _ _ ?_; clear hK K
    refine wx_cond false rfl (fun h => by cases h) (fun _ => wx_exit ?_)
    exact hx _ rfl rfl rfl
  | succ m ih =>
    intro i hi
    have hy : (i : Int) < gs.length := by omega
    have la : i < gs.length := by omega
    have h0 : (0 : Int) ≤ i := by omega
    have ga : (valRows gs)[i]? = some (Val.row gs[i]) := by rw [valRows_get, List.getElem?_eq_getElem la]; rfl
    have hc := K.may _ (hs _ (List.getElem_mem la))
    have hf : (decide (sizeV gs[i] ≤ 60) && mayV gs[i]) = true := hm _ (List.getElem_mem la)
    rw [hf] at hc
    have w : IntKind.i64.wrap ((i : Int) + 1) = ((i + 1 : Nat) : Int) := by rw [i64_in (by omega) (by omega)]; omega
    generalize gs[i] = x at *
    refine lx_step (wx_seq (wx_seq ?_))
    refine wx_region fun K hK => ?_
    simp only [evW, evX, evM, evN, evC, far, ↓reduceIte, Nat.reduceEqDiff, Nat.reduceAdd, Nat.reduceLeDiff, Nat.reduceSub, Nat.reduceLT, reduceCtorEq, not_true_eq_false, not_false_eq_true, Int.reduceEq, Int.reduceLT, Int.reduceLE, Int.reduceNeg, hy, valRows_length]
    refine hK _ _ ?_; clear hK K
    refine wx_cond true rfl (fun _ => wx_skip ?_) (fun h => by cases h)
    refine wx_seq (wx_block ?_)
    refine wx_seq ?_
    refine wx_region fun K hK => ?_
    simp only [evW, evX, evM, evN, evC, far, ↓reduceIte, Nat.reduceEqDiff, Nat.reduceAdd, Nat.reduceLeDiff, Nat.reduceSub, Nat.reduceLT, reduceCtorEq, not_true_eq_false, not_false_eq_true, Int.reduceEq, Int.reduceLT, Int.reduceLE, Int.reduceNeg, h0, Int.toNat_natCast, ga, row_eq, hc]
    refine hK _ _ ?_; clear hK K
    refine wx_cond false rfl (fun h => by cases h) (fun _ => wx_skip ?_)
    refine wx_region fun K hK => ?_
    simp only [evW, evX, evM, evN, evC, far, ↓reduceIte, Nat.reduceEqDiff, Nat.reduceAdd, Nat.reduceLeDiff, Nat.reduceSub, Nat.reduceLT, reduceCtorEq, not_true_eq_false, not_false_eq_true, Int.reduceEq, Int.reduceLT, Int.reduceLE, Int.reduceNeg, w]
    refine hK _ _ ?_; clear hK K
    refine ⟨_, ?_, ih (i + 1) (by omega)⟩
    simp only [evH, evX, evN, ↓reduceIte, Nat.reduceEqDiff, Nat.reduceAdd, Nat.reduceLeDiff, Nat.reduceLT, Nat.reduceSub, reduceCtorEq]

set_option maxHeartbeats 1000000 in
theorem fo2_loop (K : ValOk E) {gs bs : List Val} (hl : bs.length ≤ 1000) (hs : ∀ x ∈ bs, Small x) (hm : ∀ x ∈ bs, mayF x = false) {Q : Ex → St → Prop}
    (hx : ∀ tm, look tm 4 = .ptr 3 0 → look tm 5 = .own 8 0 4 (valRows gs) → look tm 6 = .own 19 0 4 (valRows bs) → Q (.exit 2) ⟨tm, [some (.box [.d (.i .i64 1), .d (.i .i64 1), .d (.s []), .nil 4]), some (.box [.d (.i .i64 3), .d (.i .i64 0), .d (.s [97]), .nil 4]), some (.box [.d (.i .i64 3), .d (.i .i64 0), .d (.s [98]), .nil 4]), some (.box [.d (.i .i64 4), .d (.i .i64 0), .d (.s []), .d (.l 4 [[.i .i64 3, .i .i64 0, .s [97], .l 4 []], [.i .i64 1, .i .i64 1, .s [], .l 4 []]])]), some (.tok 0 4), some (.tok 0 4), some (.tok 0 4), some (.tok 0 1), some (.tok 0 4), some (.tok 0 4), some (.tok 0 4), some (.tok 0 4), some (.tok 0 4), some (.tok 0 4), some (.tok 0 4), some (.tok 0 4), some (.tok 0 4), some (.tok 0 1), some (.tok 0 4), some (.tok 0 4)]⟩) :
    ∀ (m i : Nat), i + m = bs.length →
      LX E fo2 ⟨[4, 5, 6, 8], [], [], [], [], true⟩ 20 ⟨[(4, .ptr 3 0), (5, .own 8 0 4 (valRows gs)), (6, .own 19 0 4 (valRows bs)), (8, .d (.i .i64 i))], [some (.box [.d (.i .i64 1), .d (.i .i64 1), .d (.s []), .nil 4]), some (.box [.d (.i .i64 3), .d (.i .i64 0), .d (.s [97]), .nil 4]), some (.box [.d (.i .i64 3), .d (.i .i64 0), .d (.s [98]), .nil 4]), some (.box [.d (.i .i64 4), .d (.i .i64 0), .d (.s []), .d (.l 4 [[.i .i64 3, .i .i64 0, .s [97], .l 4 []], [.i .i64 1, .i .i64 1, .s [], .l 4 []]])]), some (.tok 0 4), some (.tok 0 4), some (.tok 0 4), some (.tok 0 1), some (.tok 0 4), some (.tok 0 4), some (.tok 0 4), some (.tok 0 4), some (.tok 0 4), some (.tok 0 4), some (.tok 0 4), some (.tok 0 4), some (.tok 0 4), some (.tok 0 1), some (.tok 0 4), some (.tok 0 4)]⟩ Q := by
  intro m
  induction m with
  | zero =>
    intro i hi
    have hn : ¬ ((i : Int) < bs.length) := by omega
    refine lx_step (wx_seq (wx_seq ?_))
    refine wx_region fun K hK => ?_
    simp only [evW, evX, evM, evN, evC, far, ↓reduceIte, Nat.reduceEqDiff, Nat.reduceAdd, Nat.reduceLeDiff, Nat.reduceSub, Nat.reduceLT, reduceCtorEq, not_true_eq_false, not_false_eq_true, Int.reduceEq, Int.reduceLT, Int.reduceLE, Int.reduceNeg, hn, valRows_length]
    refine hK _ _ ?_; clear hK K
    refine wx_cond false rfl (fun h => by cases h) (fun _ => wx_exit ?_)
    exact hx _ rfl rfl rfl
  | succ m ih =>
    intro i hi
    have hy : (i : Int) < bs.length := by omega
    have la : i < bs.length := by omega
    have h0 : (0 : Int) ≤ i := by omega
    have ga : (valRows bs)[i]? = some (Val.row bs[i]) := by rw [valRows_get, List.getElem?_eq_getElem la]; rfl
    have hc := K.may _ (hs _ (List.getElem_mem la))
    have hf : (decide (sizeV bs[i] ≤ 60) && mayV bs[i]) = false := hm _ (List.getElem_mem la)
    rw [hf] at hc
    have w : IntKind.i64.wrap ((i : Int) + 1) = ((i + 1 : Nat) : Int) := by rw [i64_in (by omega) (by omega)]; omega
    generalize bs[i] = x at *
    refine lx_step (wx_seq (wx_seq ?_))
    refine wx_region fun K hK => ?_
    simp only [evW, evX, evM, evN, evC, far, ↓reduceIte, Nat.reduceEqDiff, Nat.reduceAdd, Nat.reduceLeDiff, Nat.reduceSub, Nat.reduceLT, reduceCtorEq, not_true_eq_false, not_false_eq_true, Int.reduceEq, Int.reduceLT, Int.reduceLE, Int.reduceNeg, hy, valRows_length]
    refine hK _ _ ?_; clear hK K
    refine wx_cond true rfl (fun _ => wx_skip ?_) (fun h => by cases h)
    refine wx_seq (wx_block ?_)
    refine wx_seq ?_
    refine wx_region fun K hK => ?_
    simp only [evW, evX, evM, evN, evC, far, ↓reduceIte, Nat.reduceEqDiff, Nat.reduceAdd, Nat.reduceLeDiff, Nat.reduceSub, Nat.reduceLT, reduceCtorEq, not_true_eq_false, not_false_eq_true, Int.reduceEq, Int.reduceLT, Int.reduceLE, Int.reduceNeg, h0, Int.toNat_natCast, ga, row_eq, hc]
    refine hK _ _ ?_; clear hK K
    refine wx_cond false rfl (fun h => by cases h) (fun _ => wx_skip ?_)
    refine wx_region fun K hK => ?_
    simp only [evW, evX, evM, evN, evC, far, ↓reduceIte, Nat.reduceEqDiff, Nat.reduceAdd, Nat.reduceLeDiff, Nat.reduceSub, Nat.reduceLT, reduceCtorEq, not_true_eq_false, not_false_eq_true, Int.reduceEq, Int.reduceLT, Int.reduceLE, Int.reduceNeg, w]
    refine hK _ _ ?_; clear hK K
    refine ⟨_, ?_, ih (i + 1) (by omega)⟩
    simp only [evH, evX, evN, ↓reduceIte, Nat.reduceEqDiff, Nat.reduceAdd, Nat.reduceLeDiff, Nat.reduceLT, Nat.reduceSub, reduceCtorEq]

set_option maxHeartbeats 2000000 in
theorem forms_ok (h103 : E 103 = some (.code c103)) (K : ValOk E) (h122 : E 122 = some (.code c122)) : lcall E 103 [] [] = some (.d (.b true), []) := by
  have hb := K.begun
  have q1 := pair122_ok h122 fS fOne
  have q2 := pair122_ok h122 fT fPair
  have q3 := pair122_ok h122 fOne fS
  have q4 := pair122_ok h122 fT fS
  simp only [fOne, fS, fT, fPair, Val.arg, Val.kind, Val.i, Val.s, Val.l, valRows, Val.row] at q1 q2 q3 q4
  have r1 : roomy 959 1 = true := by decide
  have r2 : roomy 960 1 = true := by decide
  have r3 : roomy 60 56 = true := by decide
  refine call_wx h103 ?_
  refine wx_seq (wx_region fun K hK => ?_)
  simp only [evW, evX, evM, evN, evC, far, ↓reduceIte, Nat.reduceEqDiff, Nat.reduceAdd, Nat.reduceLeDiff, Nat.reduceSub, Nat.reduceLT, reduceCtorEq, not_true_eq_false, not_false_eq_true, Int.reduceEq, Int.reduceLT, Int.reduceLE, Int.reduceNeg]
  refine hK _ _ ?_; clear hK K
  refine wx_seq (wx_seq ?_)
  refine wx_region fun K hK => ?_
  simp only [evW, evX, evM, evN, evC, far, ↓reduceIte, Nat.reduceEqDiff, Nat.reduceAdd, Nat.reduceLeDiff, Nat.reduceSub, Nat.reduceLT, reduceCtorEq, not_true_eq_false, not_false_eq_true, Int.reduceEq, Int.reduceLT, Int.reduceLE, Int.reduceNeg, hb]
  refine hK _ _ ?_; clear hK K
  refine wx_cond false rfl (fun h => by cases h) (fun _ => wx_skip ?_)
  refine wx_seq (wx_region fun K hK => ?_)
  simp only [evW, evX, evM, evN, evC, far, ↓reduceIte, Nat.reduceEqDiff, Nat.reduceAdd, Nat.reduceLeDiff, Nat.reduceSub, Nat.reduceLT, reduceCtorEq, not_true_eq_false, not_false_eq_true, Int.reduceEq, Int.reduceLT, Int.reduceLE, Int.reduceNeg]
  refine hK _ _ ?_; clear hK K
  refine wx_seq (wx_region fun K hK => ?_)
  simp only [evW, evX, evM, evN, evC, far, ↓reduceIte, Nat.reduceEqDiff, Nat.reduceAdd, Nat.reduceLeDiff, Nat.reduceSub, Nat.reduceLT, reduceCtorEq, not_true_eq_false, not_false_eq_true, Int.reduceEq, Int.reduceLT, Int.reduceLE, Int.reduceNeg, q1]
  refine hK _ _ ?_; clear hK K
  refine wx_seq (wx_regionT fun K hK => ?_)
  simp only [evW, evX, evM, evN, evC, far, ↓reduceIte, Nat.reduceEqDiff, Nat.reduceAdd, Nat.reduceLeDiff, Nat.reduceSub, Nat.reduceLT, reduceCtorEq, not_true_eq_false, not_false_eq_true, Int.reduceEq, Int.reduceLT, Int.reduceLE, Int.reduceNeg, q1, q2, q3, q4, r1, r2, r3, Int.reduceToNat, -List.reduceReplicate]
  refine hK _ _ (by rfl) ?_; clear hK K
  refine wx_seq (wx_regionT fun K hK => ?_)
  simp only [evW, evX, evM, evN, evC, far, ↓reduceIte, Nat.reduceEqDiff, Nat.reduceAdd, Nat.reduceLeDiff, Nat.reduceSub, Nat.reduceLT, reduceCtorEq, not_true_eq_false, not_false_eq_true, Int.reduceEq, Int.reduceLT, Int.reduceLE, Int.reduceNeg, q1, q2, q3, q4, r1, r2, r3, Int.reduceToNat, -List.reduceReplicate]
  refine hK _ _ (by rfl) ?_; clear hK K
  refine wx_seq (wx_seq ?_)
  refine wx_region fun K hK => ?_
  simp only [evW, evX, evM, evN, evC, far, ↓reduceIte, Nat.reduceEqDiff, Nat.reduceAdd, Nat.reduceLeDiff, Nat.reduceSub, Nat.reduceLT, reduceCtorEq, not_true_eq_false, not_false_eq_true, Int.reduceEq, Int.reduceLT, Int.reduceLE, Int.reduceNeg]
  refine hK _ _ ?_; clear hK K
  refine wx_block (wx_loop ?_)
  simp only [evH, evX, evN, ↓reduceIte, Nat.reduceEqDiff, Nat.reduceAdd, Nat.reduceLeDiff, Nat.reduceLT, Nat.reduceSub, reduceCtorEq, -List.reduceReplicate]
  have g1 : ∀ x ∈ fGood, mayF x = true := List.all_eq_true.1 good_may
  have g2 : ∀ x ∈ fBad, mayF x = false := fun x hx => by have := List.all_eq_true.1 bad_may x hx; simpa using this
  have g3 : ∀ x ∈ fGood, Small x := fun x hx => smallB_ok 5 x (List.all_eq_true.1 good_small x hx)
  have g4 : ∀ x ∈ fBad, Small x := fun x hx => smallB_ok 5 x (List.all_eq_true.1 bad_small x hx)
  refine fo1_loop (gs := fGood) (bs := fBad) K (by decide) g3 g1 (fun tm t4 t5 t6 => ?_) fGood.length 0 (by omega)
  refine wx_seq (wx_seq ?_)
  refine wx_region fun K hK => ?_
  simp only [evW, evX, evM, evN, evC, far, ↓reduceIte, Nat.reduceEqDiff, Nat.reduceAdd, Nat.reduceLeDiff, Nat.reduceSub, Nat.reduceLT, reduceCtorEq, not_true_eq_false, not_false_eq_true, Int.reduceEq, Int.reduceLT, Int.reduceLE, Int.reduceNeg]
  refine hK _ _ ?_; clear hK K
  refine wx_block (wx_loop ?_)
  simp only [evH, evX, evN, ↓reduceIte, Nat.reduceEqDiff, Nat.reduceAdd, Nat.reduceLeDiff, Nat.reduceLT, Nat.reduceSub, reduceCtorEq, t4, t5, t6]
  refine fo2_loop (gs := fGood) (bs := fBad) K (by decide) g4 g2 (fun tm t4 t5 t6 => ?_) fBad.length 0 (by omega)
  have z1 := K.size fPair (smallB_ok 5 _ (by decide +kernel))
  have z2 := K.size (.mk 3 0 (repB 959) []) (smallB_ok 5 _ (by decide +kernel))
  rw [pair_size] at z1
  rw [long_size] at z2
  simp only [fPair, fS, fOne, Val.arg, Val.kind, Val.i, Val.s, Val.l, valRows, Val.row] at z1 z2
  have e8 : (valRows fGood)[8]? = some [.i .i64 3, .i .i64 0, .s (repB 959), .l 4 []] := rfl
  refine wx_seq (wx_region fun K hK => ?_)
  simp only [evW, evX, evM, evN, evC, far, ↓reduceIte, Nat.reduceEqDiff, Nat.reduceAdd, Nat.reduceLeDiff, Nat.reduceSub, Nat.reduceLT, reduceCtorEq, not_true_eq_false, not_false_eq_true, Int.reduceEq, Int.reduceLT, Int.reduceLE, Int.reduceNeg, t4, t5, z1, z2, e8, Int.reduceToNat]
  refine hK _ _ ?_; clear hK K
  refine wx_ret ⟨.inr rfl, ?_⟩
  simp only [evR, evX, evC, evN, ↓reduceIte, Nat.reduceEqDiff, Nat.reduceAdd, Nat.reduceLeDiff, Nat.reduceLT, Nat.reduceSub, reduceCtorEq, far, c103]
end Ab
