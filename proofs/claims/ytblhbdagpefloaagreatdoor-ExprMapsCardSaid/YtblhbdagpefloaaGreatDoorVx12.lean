/-
 Which values may be: the document's May.
-/
import Derived.Test.YtblhbdagpefloaaGreatDoorVx11
namespace Ab.Vx
open Go
set_option linter.unusedVariables false
set_option linter.unusedSimpArgs false
set_option maxRecDepth 100000
variable {E : Nat → Option Fn}
def Fit (v : GVal) : Prop := szN v ≤ 1000000000000
def mayR (v : GVal) : Bool := decide (sizeV v ≤ 60) && mayV v
def badR (x : GVal) : Bool := !mayR x || decide (x.kind = 7)
theorem fit_sub {v : GVal} (h : Fit v) : ∀ x ∈ v.l, Fit x := fun x hx => by have := szN_sub hx; unfold Fit at *; omega
theorem badR_any {v : GVal} (hf : Fit v) (hs : sizeV v ≤ 60) : v.l.any badR = v.l.any badX := by
 have : ∀ x ∈ v.l, badR x = badX x := fun x hx => by
  have h1 : sizeV x ≤ 60 := by
   have := szN_sub hx
   rw [sizeV_fit v hf] at hs
   rw [sizeV_fit x (fit_sub hf x hx)]
   omega
  simp only [badR, badX, mayR, h1, decide_true, Bool.true_and]
  exact Bool.or_comm _ _
 generalize v.l = l at this
 induction l with
 | nil => rfl
 | cons x r ih => simp only [List.any_cons, this x (by simp), ih fun y hy => this y (by simp [hy])]
def mrLoop1 : CCode := match c110.body with
 | .seq _ (.seq _ (.seq (.seq _ (.block _ (.loop _ c))) _)) => c
 | _ => .skip
theorem mr_loop1 {v : GVal} (hl : v.l.length ≤ 1000) (ih : ∀ x ∈ v.l, lcall E 110 [x.arg] [] = some (.d (.b (mayR x)), [])) {Q : Ex → St → Prop} (hx : ∀ tm, look tm 1 = .ptr 0 0 → v.l.any badR = false → Q (.exit 0) ⟨tm, [vbox v]⟩) (hr : ∀ tm hp, v.l.any badR = true → look tm 2 = .d (.b false) → Q .ret ⟨tm, hp⟩) :
  ∀ (n i : Nat), i + n = v.l.length → v.l.any badR = (v.l.drop i).any badR → LX E mrLoop1 ⟨[1, 3], [], [], [], [], true⟩ 1 ⟨[(1, .ptr 0 0), (3, .d (.i .i64 i))], [vbox v]⟩ Q := by
 intro n
 induction n with
 | zero =>
  intro i hi ho
  have hn : ¬ ((i : Int) < v.l.length) := by omega
  rw [List.drop_eq_nil_of_le (by omega), List.any_nil] at ho
  refine lx_step (wx_seq (wx_seq ?_))
  refine wx_region fun K hK => ?_
  simp only [evW, evX, evM, evN, ↓reduceIte, Nat.reduceEqDiff, gvalRows_length, hn]
  refine hK _ _ ?_; clear hK K
  refine wx_cond false rfl (fun h => by cases h) (fun _ => wx_exit ?_)
  exact hx _ rfl ho
 | succ n ihn =>
  intro i hi ho
  have hy : (i : Int) < v.l.length := by omega
  have la : i < v.l.length := by omega
  have h0 : (0 : Int) ≤ i := by omega
  have ga : (gvalRows v.l)[i]? = some (GVal.row v.l[i]) := by rw [gvalRows_get, List.getElem?_eq_getElem la]; rfl
  have hcall := ih v.l[i] (List.getElem_mem la)
  rw [drop_cons la, List.any_cons] at ho
  generalize v.l[i] = x at *
  have w : IntKind.i64.wrap ((i : Int) + 1) = ((i + 1 : Nat) : Int) := by rw [i64_in (by omega) (by omega)]; omega
  refine lx_step (wx_seq (wx_seq ?_))
  refine wx_region fun K hK => ?_
  simp only [evW, evX, evM, evN, ↓reduceIte, Nat.reduceEqDiff, gvalRows_length, hy]
  refine hK _ _ ?_; clear hK K
  refine wx_cond true rfl (fun _ => wx_skip ?_) (fun h => by cases h)
  refine wx_seq (wx_block ?_)
  cases hm : mayR x with
  | false =>
   refine wx_seq (wx_region fun K hK => ?_)
   simp only [evW, evX, evM, evN, evC, far, ↓reduceIte, Nat.reduceEqDiff, Nat.reduceAdd, Nat.reduceLeDiff, h0, Int.toNat_natCast, ga, row_eq, hcall, hm]
   refine hK _ _ ?_; clear hK K
   refine wx_cond true rfl (fun _ => ?_) (fun h => by cases h)
   refine wx_seq (wx_region fun K hK => ?_)
   simp only [evW, evX, evM, evN]
   refine hK _ _ ?_; clear hK K
   exact wx_ret (hr _ _ (by rw [ho, badR, hm]; rfl) rfl)
  | true =>
   by_cases h7 : x.kind = 7
   ·refine wx_seq (wx_region fun K hK => ?_)
    simp only [evW, evX, evM, evN, evC, far, ↓reduceIte, Nat.reduceEqDiff, Nat.reduceAdd, Nat.reduceLeDiff, h0, Int.toNat_natCast, ga, row_eq, hcall, hm, eq_true h7]
    refine hK _ _ ?_; clear hK K
    refine wx_cond true rfl (fun _ => ?_) (fun h => by cases h)
    refine wx_seq (wx_region fun K hK => ?_)
    simp only [evW, evX, evM, evN]
    refine hK _ _ ?_; clear hK K
    exact wx_ret (hr _ _ (by rw [ho, badR, hm]; simp [h7]) rfl)
   ·refine wx_seq (wx_region fun K hK => ?_)
    simp only [evW, evX, evM, evN, evC, far, ↓reduceIte, Nat.reduceEqDiff, Nat.reduceAdd, Nat.reduceLeDiff, h0, Int.toNat_natCast, ga, row_eq, hcall, hm, h7]
    refine hK _ _ ?_; clear hK K
    refine wx_cond false rfl (fun h => by cases h) (fun _ => wx_skip ?_)
    refine wx_region fun K hK => ?_
    simp only [evW, evX, evM, evN, ↓reduceIte, Nat.reduceEqDiff, w]
    refine hK _ _ ?_; clear hK K
    refine ⟨_, ?_, ihn (i + 1) (by omega) (by rw [ho, badR, hm]; simp [h7])⟩
    simp only [evH, evX, evN, ↓reduceIte, Nat.reduceEqDiff, Nat.reduceLT]
def mrLoop2 : CCode := match c110.body with
 | .seq _ (.seq _ (.seq _ (.seq _ (.seq _ (.seq (.seq _ (.block _ (.loop _ c))) _))))) => c
 | _ => .skip
def okFrom (k : Int) (l : List GVal) (i : Nat) : Bool :=
 if k = 4 then true else if k = 5 then chainB ltV (l.drop (i - 1)) else (l.drop i).all pairV && chainB ltK (l.drop (i - 1))
theorem okFrom_zero {k : Int} (hk : 4 ≤ k) (hk' : k ≤ 6) (l : List GVal) : okFrom k l 0 = rowOk k l := by
 unfold okFrom rowOk
 by_cases h4 : k = 4
 ·simp [h4]
 ·by_cases h5 : k = 5
  ·simp [h5]
  ·have h6 : k = 6 := by omega
   simp [h6]
theorem okFrom_end {k : Int} {l : List GVal} {i : Nat} (h : l.length ≤ i) : okFrom k l i = true := by
 have hc : ∀ p, chainB p (l.drop (i - 1)) = true := fun p => by
  rcases Nat.lt_or_ge (i - 1) l.length with hlt | hge
  ·rw [drop_cons hlt, List.drop_eq_nil_of_le (by omega)]; rfl
  ·rw [List.drop_eq_nil_of_le hge]; rfl
 unfold okFrom
 split
 ·rfl
 ·split
  ·exact hc _
  ·rw [hc, List.drop_eq_nil_of_le h]; rfl
theorem okFrom_step5 {l : List GVal} {j : Nat} (h : j + 1 < l.length) : okFrom 5 l (j + 1) = (ltV l[j] l[j + 1] && okFrom 5 l (j + 1 + 1)) := by
 simp only [okFrom, show ¬ ((5 : Int) = 4) by decide, if_true, if_false, Nat.add_sub_cancel]
 exact chain_step h
theorem okFrom_first5 {l : List GVal} : okFrom 5 l 0 = okFrom 5 l 1 := by simp [okFrom]
theorem okFrom_step6 {l : List GVal} {j : Nat} (h : j + 1 < l.length) : okFrom 6 l (j + 1) = (pairV l[j + 1] && (ltK l[j] l[j + 1] && okFrom 6 l (j + 1 + 1))) := by
 simp only [okFrom, show ¬ ((6 : Int) = 4) by decide, show ¬ ((6 : Int) = 5) by decide, if_false, Nat.add_sub_cancel]
 rw [chain_step h, drop_cons h, List.all_cons]
 cases pairV l[j + 1] <;> cases ltK l[j] l[j + 1] <;> simp
theorem okFrom_first6 {l : List GVal} (h : 0 < l.length) : okFrom 6 l 0 = (pairV l[0] && okFrom 6 l 1) := by
 simp only [okFrom, show ¬ ((6 : Int) = 4) by decide, show ¬ ((6 : Int) = 5) by decide, if_false, Nat.sub_self, Nat.zero_sub]
 rw [drop_cons h, List.all_cons, ← drop_cons h]
 cases pairV l[0] <;> simp
set_option maxHeartbeats 1000000 in
theorem mr_loop2 {v : GVal} (hl : v.l.length ≤ 1000) (hk4 : 4 ≤ v.kind) (hk6 : v.kind ≤ 6) (ih : ∀ x ∈ v.l, ∀ y ∈ v.l, lcall E 115 [x.arg, y.arg] [] = some (.d (.i .i64 (cmpV x y)), [])) {Q : Ex → St → Prop} (hx : ∀ tm, rowOk v.kind v.l = true → Q (.exit 3) ⟨tm, [vbox v]⟩) (hr : ∀ tm hp, rowOk v.kind v.l = false → look tm 2 = .d (.b false) → Q .ret ⟨tm, hp⟩) :
  ∀ (n i : Nat), i + n = v.l.length → rowOk v.kind v.l = okFrom v.kind v.l i → (v.kind = 6 → ∀ j, j < i → ∀ x, v.l[j]? = some x → pairV x = true) → LX E mrLoop2 ⟨[1, 4], [], [], [], [], true⟩ 1 ⟨[(1, .ptr 0 0), (4, .d (.i .i64 i))], [vbox v]⟩ Q := by
 intro n
 induction n with
 | zero =>
  intro i hi ho hp
  have hn : ¬ ((i : Int) < v.l.length) := by omega
  rw [okFrom_end (by omega)] at ho
  refine lx_step (wx_seq (wx_seq ?_))
  refine wx_region fun K hK => ?_
  simp only [evW, evX, evM, evN, ↓reduceIte, Nat.reduceEqDiff, gvalRows_length, hn]
  refine hK _ _ ?_; clear hK K
  refine wx_cond false rfl (fun h => by cases h) (fun _ => wx_exit ?_)
  exact hx _ ho
 | succ n ihn =>
  intro i hi ho hp
  have hy : (i : Int) < v.l.length := by omega
  have la : i < v.l.length := by omega
  have h0 : (0 : Int) ≤ i := by omega
  have ga : (gvalRows v.l)[i]? = some (GVal.row v.l[i]) := by rw [gvalRows_get, List.getElem?_eq_getElem la]; rfl
  have w : IntKind.i64.wrap ((i : Int) + 1) = ((i + 1 : Nat) : Int) := by rw [i64_in (by omega) (by omega)]; omega
  have next : (v.kind = 6 → pairV v.l[i] = true) → ∀ (j : Nat), v.kind = 6 → j < i + 1 → ∀ x, v.l[j]? = some x → pairV x = true := fun hpi j h6 hj x hx => by
   rcases Nat.lt_or_ge j i with h | h
   ·exact hp h6 j h x hx
   ·obtain rfl : j = i := by omega
    rw [List.getElem?_eq_getElem la] at hx
    cases hx; exact hpi h6
  refine lx_step (wx_seq (wx_seq ?_))
  refine wx_region fun K hK => ?_
  simp only [evW, evX, evM, evN, ↓reduceIte, Nat.reduceEqDiff, gvalRows_length, hy]
  refine hK _ _ ?_; clear hK K
  refine wx_cond true rfl (fun _ => wx_skip ?_) (fun h => by cases h)
  refine wx_seq (wx_block ?_)
  refine wx_seq (wx_region fun K hK => ?_)
  simp only [evW, evX, evM, evN, ↓reduceIte, Nat.reduceEqDiff, Nat.reduceAdd, Nat.reduceLeDiff, h0, Int.toNat_natCast, ga, row_eq]
  refine hK _ _ ?_; clear hK K
  refine wx_seq (wx_seq ?_)
  by_cases h4 : v.kind = 4
  ·have h5 : ¬ v.kind = 5 := by omega
   have h6 : ¬ v.kind = 6 := by omega
   have hok : okFrom v.kind v.l i = okFrom v.kind v.l (i + 1) := by simp [okFrom, h4]
   refine wx_regionT fun K hK => ?_
   simp only [evW, evX, evM, evN, ↓reduceIte, Nat.reduceEqDiff, Nat.reduceAdd, h5]
   refine hK _ _ (by rfl) ?_; clear hK K
   refine wx_cond false rfl (fun h => by cases h) (fun _ => wx_skip ?_)
   refine wx_seq (wx_regionT fun K hK => ?_)
   simp only [evW, evX, evM, evN, ↓reduceIte, Nat.reduceEqDiff, Nat.reduceAdd, h6]
   refine hK _ _ (by rfl) ?_; clear hK K
   refine wx_cond false rfl (fun h => by cases h) (fun _ => wx_skip ?_)
   refine wx_region fun K hK => ?_
   simp only [evW, evX, evM, evN, ↓reduceIte, Nat.reduceEqDiff, Nat.reduceAdd, w]
   refine hK _ _ ?_; clear hK K
   refine ⟨_, ?_, ihn (i + 1) (by omega) (ho.trans hok) (fun h => absurd h h6)⟩
   simp only [evH, evX, evN, ↓reduceIte, Nat.reduceEqDiff, Nat.reduceLT]
  ·by_cases h5 : v.kind = 5
   ·have h6 : ¬ v.kind = 6 := by omega
    cases i with
    | zero =>
     have hz : ¬ ((0 : Int) < ((0 : Nat) : Int)) := by omega
     refine wx_regionT fun K hK => ?_
     simp only [evW, evX, evM, evN, ↓reduceIte, Nat.reduceEqDiff, Nat.reduceAdd, eq_true h5, hz]
     refine hK _ _ (by rfl) ?_; clear hK K
     refine wx_cond false rfl (fun h => by cases h) (fun _ => wx_skip ?_)
     refine wx_seq (wx_regionT fun K hK => ?_)
     simp only [evW, evX, evM, evN, ↓reduceIte, Nat.reduceEqDiff, Nat.reduceAdd, h6]
     refine hK _ _ (by rfl) ?_; clear hK K
     refine wx_cond false rfl (fun h => by cases h) (fun _ => wx_skip ?_)
     refine wx_region fun K hK => ?_
     simp only [evW, evX, evM, evN, ↓reduceIte, Nat.reduceEqDiff, Nat.reduceAdd, w]
     refine hK _ _ ?_; clear hK K
     refine ⟨_, ?_, ihn 1 (by omega) (by rw [ho, h5]; exact okFrom_first5) (fun h => absurd h h6)⟩
     simp only [evH, evX, evN, ↓reduceIte, Nat.reduceEqDiff, Nat.reduceLT]
    | succ j =>
     have hz : (0 : Int) < ((j + 1 : Nat) : Int) := by omega
     have lj : j < v.l.length := by omega
     have w1 : IntKind.i64.wrap (((j + 1 : Nat) : Int) - 1) = (j : Int) := by rw [i64_in (by omega) (by omega)]; omega
     have hj0 : (0 : Int) ≤ j := by omega
     have gj : (gvalRows v.l)[j]? = some (GVal.row v.l[j]) := by rw [gvalRows_get, List.getElem?_eq_getElem lj]; rfl
     have hcall := ih v.l[j] (List.getElem_mem lj) v.l[j + 1] (List.getElem_mem la)
     have hst : rowOk v.kind v.l = (ltV v.l[j] v.l[j + 1] && okFrom v.kind v.l (j + 1 + 1)) := by rw [ho, h5]; exact okFrom_step5 la
     clear next ga
     generalize v.l[j] = x at *
     generalize v.l[j + 1] = y at *
     by_cases hxy : 0 ≤ cmpV x y
     ·refine wx_regionT fun K hK => ?_
      simp only [evW, evX, evM, evN, evC, far, ↓reduceIte, Nat.reduceEqDiff, Nat.reduceAdd, Nat.reduceLeDiff, eq_true h5, hz, w1, hj0, Int.toNat_natCast, gj, row_eq, hcall, eq_true hxy]
      refine hK _ _ (by rfl) ?_; clear hK K
      refine wx_cond true rfl (fun _ => ?_) (fun h => by cases h)
      refine wx_seq (wx_region fun K hK => ?_)
      simp only [evW, evX, evM, evN, Nat.reduceAdd]
      refine hK _ _ ?_; clear hK K
      refine wx_ret (hr _ _ ?_ rfl)
      rw [hst, ltV, show decide (cmpV x y < 0) = false from decide_eq_false (by omega)]; rfl
     ·refine wx_regionT fun K hK => ?_
      simp only [evW, evX, evM, evN, evC, far, ↓reduceIte, Nat.reduceEqDiff, Nat.reduceAdd, Nat.reduceLeDiff, eq_true h5, hz, w1, hj0, Int.toNat_natCast, gj, row_eq, hcall, hxy]
      refine hK _ _ (by rfl) ?_; clear hK K
      refine wx_cond false rfl (fun h => by cases h) (fun _ => wx_skip ?_)
      refine wx_seq (wx_regionT fun K hK => ?_)
      simp only [evW, evX, evM, evN, ↓reduceIte, Nat.reduceEqDiff, Nat.reduceAdd, h6]
      refine hK _ _ (by rfl) ?_; clear hK K
      refine wx_cond false rfl (fun h => by cases h) (fun _ => wx_skip ?_)
      refine wx_region fun K hK => ?_
      simp only [evW, evX, evM, evN, ↓reduceIte, Nat.reduceEqDiff, Nat.reduceAdd, w]
      refine hK _ _ ?_; clear hK K
      refine ⟨_, ?_, ihn (j + 1 + 1) (by omega) ?_ (fun h => absurd h h6)⟩
      ·simp only [evH, evX, evN, ↓reduceIte, Nat.reduceEqDiff, Nat.reduceLT]
      ·rw [hst, ltV, show decide (cmpV x y < 0) = true from decide_eq_true (by omega)]; rfl
   ·have h6 : v.kind = 6 := by omega
    refine wx_regionT fun K hK => ?_
    simp only [evW, evX, evM, evN, ↓reduceIte, Nat.reduceEqDiff, Nat.reduceAdd, h5]
    refine hK _ _ (by rfl) ?_; clear hK K
    refine wx_cond false rfl (fun h => by cases h) (fun _ => wx_skip ?_)
    have first : i = 0 → rowOk v.kind v.l = (pairV v.l[i] && okFrom v.kind v.l (i + 1)) := fun hi0 => by
     subst hi0
     rw [ho, h6]; exact okFrom_first6 la
    have later : ∀ j, i = j + 1 → ∀ x, v.l[j]? = some x → rowOk v.kind v.l = (pairV v.l[i] && (ltK x v.l[i] && okFrom v.kind v.l (i + 1))) := fun j hij x hx => by
     subst hij
     have lj : j < v.l.length := by omega
     rw [List.getElem?_eq_getElem lj] at hx
     cases hx
     rw [ho, h6]; exact okFrom_step6 la
    have nopair : pairV v.l[i] = false → rowOk v.kind v.l = false := fun hpf => by
     cases i with
     | zero => rw [first rfl, hpf]; rfl
     | succ j => rw [later j rfl v.l[j] (List.getElem?_eq_getElem (by omega)), hpf]; rfl
    generalize v.l[i] = y at *
    by_cases k4 : y.kind = 4
    ·by_cases kl : y.l.length = 2
     ·obtain ⟨a, b, hab⟩ : ∃ a b, y.l = [a, b] := by
       match h : y.l, kl with
       | [a, b], _ => exact ⟨a, b, rfl⟩
      by_cases k3 : a.kind = 3
      ·have hpair : pairV y = true := by simp [pairV, k4, hab, k3]
       cases i with
       | zero =>
        have hz : ¬ ((0 : Int) < ((0 : Nat) : Int)) := by omega
        refine wx_seq (wx_regionT fun K hK => ?_)
        simp only [evW, evX, evM, evN, ↓reduceIte, Nat.reduceEqDiff, Nat.reduceAdd, not_true_eq_false, Int.reduceLT, eq_true h6, eq_true k4, hab, gvalRows, Int.cast_ofNat_Int, Int.toNat_zero, Std.le_refl, row_eq, eq_true k3]
        refine hK _ _ (by rfl) ?_; clear hK K
        refine wx_cond false rfl (fun h => by cases h) (fun _ => wx_skip ?_)
        have w0 : IntKind.i64.wrap ((0 : Int) + 1) = ((1 : Nat) : Int) := by rw [i64_in (by omega) (by omega)]; omega
        refine wx_region fun K hK => ?_
        simp only [evW, evX, evM, evN, ↓reduceIte, Nat.reduceEqDiff, Nat.reduceAdd, w0]
        refine hK _ _ ?_; clear hK K
        refine ⟨_, ?_, ihn 1 (by omega) (by rw [first rfl, hpair]; rfl) (fun h6 j hj x hx => next (fun _ => hpair) j h6 hj x hx)⟩
        simp only [evH, evX, evN, ↓reduceIte, Nat.reduceEqDiff, Nat.reduceLT]
       | succ j =>
        have hz : (0 : Int) < ((j + 1 : Nat) : Int) := by omega
        have lj : j < v.l.length := by omega
        have w1 : IntKind.i64.wrap (((j + 1 : Nat) : Int) - 1) = (j : Int) := by rw [i64_in (by omega) (by omega)]; omega
        have hj0 : (0 : Int) ≤ j := by omega
        have gj : (gvalRows v.l)[j]? = some (GVal.row v.l[j]) := by rw [gvalRows_get, List.getElem?_eq_getElem lj]; rfl
        have hpx := hp h6 j (by omega) v.l[j] (List.getElem?_eq_getElem lj)
        have hl8 := later j rfl v.l[j] (List.getElem?_eq_getElem lj)
        clear ga
        generalize v.l[j] = x at *
        obtain ⟨p, q, hpq⟩ : ∃ p q, x.l = [p, q] := by
         have := pair_len hpx
         match h : x.l, this with
         | [p, q], _ => exact ⟨p, q, rfl⟩
        have hlt : ltK x y = bytesLess p.s a.s := by simp [ltK, keyV, hpq, hab]
        cases hb : bytesLess p.s a.s with
        | true =>
         refine wx_seq (wx_regionT fun K hK => ?_)
         simp only [evW, evX, evM, evN, ↓reduceIte, Nat.reduceEqDiff, Nat.reduceAdd, not_true_eq_false, eq_true h6, eq_true k4, hab, gvalRows, Int.cast_ofNat_Int, Int.toNat_zero, Std.le_refl, row_eq, eq_true k3, hz, w1, hj0, Int.toNat_natCast, gj, hpq, hb]
         refine hK _ _ (by rfl) ?_; clear hK K
         refine wx_cond false rfl (fun h => by cases h) (fun _ => wx_skip ?_)
         refine wx_region fun K hK => ?_
         simp only [evW, evX, evM, evN, ↓reduceIte, Nat.reduceEqDiff, Nat.reduceAdd, w]
         refine hK _ _ ?_; clear hK K
         refine ⟨_, ?_, ihn (j + 1 + 1) (by omega) (by rw [hl8, hpair, hlt, hb]; rfl) (fun h6 j hj x hx => next (fun _ => hpair) j h6 hj x hx)⟩
         simp only [evH, evX, evN, ↓reduceIte, Nat.reduceEqDiff, Nat.reduceLT]
        | false =>
         refine wx_seq (wx_regionT fun K hK => ?_)
         simp only [evW, evX, evM, evN, ↓reduceIte, Nat.reduceEqDiff, Nat.reduceAdd, not_true_eq_false, eq_true h6, eq_true k4, hab, gvalRows, Int.cast_ofNat_Int, Int.toNat_zero, Std.le_refl, row_eq, eq_true k3, hz, w1, hj0, Int.toNat_natCast, gj, hpq, hb]
         refine hK _ _ (by rfl) ?_; clear hK K
         refine wx_cond true rfl (fun _ => ?_) (fun h => by cases h)
         refine wx_seq (wx_region fun K hK => ?_)
         simp only [evW, evX, evM, evN, Nat.reduceAdd]
         refine hK _ _ ?_; clear hK K
         exact wx_ret (hr _ _ (by rw [hl8, hpair, hlt, hb]; rfl) rfl)
      ·refine wx_seq (wx_regionT fun K hK => ?_)
       simp only [evW, evX, evM, evN, ↓reduceIte, Nat.reduceEqDiff, Nat.reduceAdd, not_true_eq_false, not_false_eq_true, eq_true h6, eq_true k4, hab, gvalRows, Int.cast_ofNat_Int, Int.toNat_zero, Std.le_refl, row_eq, k3]
       refine hK _ _ (by rfl) ?_; clear hK K
       refine wx_cond true rfl (fun _ => ?_) (fun h => by cases h)
       refine wx_seq (wx_region fun K hK => ?_)
       simp only [evW, evX, evM, evN, Nat.reduceAdd]
       refine hK _ _ ?_; clear hK K
       exact wx_ret (hr _ _ (nopair (by simp [pairV, k4, hab, k3])) rfl)
     ·have kl' : ¬ ((y.l.length : Int) = 2) := by omega
      refine wx_seq (wx_regionT fun K hK => ?_)
      simp only [evW, evX, evM, evN, ↓reduceIte, Nat.reduceEqDiff, Nat.reduceAdd, not_true_eq_false, not_false_eq_true, eq_true h6, eq_true k4, gvalRows_length, kl']
      refine hK _ _ (by rfl) ?_; clear hK K
      refine wx_cond true rfl (fun _ => ?_) (fun h => by cases h)
      refine wx_seq (wx_region fun K hK => ?_)
      simp only [evW, evX, evM, evN, Nat.reduceAdd]
      refine hK _ _ ?_; clear hK K
      refine wx_ret (hr _ _ (nopair ?_) rfl)
      cases hpv : pairV y with
      | false => rfl
      | true => exact absurd (pair_len hpv) kl
    ·refine wx_seq (wx_regionT fun K hK => ?_)
     simp only [evW, evX, evM, evN, ↓reduceIte, Nat.reduceEqDiff, Nat.reduceAdd, not_false_eq_true, eq_true h6, k4]
     refine hK _ _ (by rfl) ?_; clear hK K
     refine wx_cond true rfl (fun _ => ?_) (fun h => by cases h)
     refine wx_seq (wx_region fun K hK => ?_)
     simp only [evW, evX, evM, evN, Nat.reduceAdd]
     refine hK _ _ ?_; clear hK K
     exact wx_ret (hr _ _ (nopair (by simp [pairV, k4])) rfl)
set_option maxHeartbeats 1000000 in
theorem refMay_ok (h110 : E 110 = some (.code c110)) (hsize : ∀ v, Small v → lcall E 113 [v.arg] [] = some (.d (.i .i64 (sizeV v)), [])) (hcmp : ∀ (a b : GVal), Small a → Small b → lcall E 115 [a.arg, b.arg] [] = some (.d (.i .i64 (cmpV a b)), [])) :
  ∀ (v : GVal), Small v → Fit v → lcall E 110 [v.arg] [] = some (.d (.b (mayR v)), []) := by
 intro v hs
 induction hs with
 | @mk v hl hsub ih =>
 intro hf
 have hsz := hsize v (.mk hl hsub)
 refine call_wx h110 ?_
 refine wx_seq (wx_region fun K hK => ?_)
 simp only [evW, evX, evM, evN, ↓reduceIte]
 refine hK _ _ ?_; clear hK K
 refine wx_seq (wx_seq ?_)
 by_cases h60 : 60 < sizeV v
 ·refine wx_region fun K hK => ?_
  simp only [evW, evX, evM, evN, evC, far, ↓reduceIte, Nat.reduceEqDiff, Nat.reduceAdd, Nat.reduceLeDiff, hsz, eq_true h60]
  refine hK _ _ ?_; clear hK K
  refine wx_cond true rfl (fun _ => ?_) (fun h => by cases h)
  refine wx_seq (wx_region fun K hK => ?_)
  simp only [evW, evX, evM, evN]
  refine hK _ _ ?_; clear hK K
  refine wx_ret ⟨.inr rfl, ?_⟩
  simp only [evR, evX, evC, evN, ↓reduceIte, far, c110]
  simp [mayR, show ¬ sizeV v ≤ 60 by omega]
 ·have h60' : sizeV v ≤ 60 := by omega
  have hR : mayR v = mayV v := by simp [mayR, h60']
  have hbad := badR_any hf h60'
  refine wx_region fun K hK => ?_
  simp only [evW, evX, evM, evN, evC, far, ↓reduceIte, Nat.reduceEqDiff, Nat.reduceAdd, Nat.reduceLeDiff, hsz, h60]
  refine hK _ _ ?_; clear hK K
  refine wx_cond false rfl (fun h => by cases h) (fun _ => wx_skip ?_)
  refine wx_seq (wx_seq ?_)
  refine wx_region fun K hK => ?_
  simp only [evW, evX, evM, evN]
  refine hK _ _ ?_; clear hK K
  refine wx_block (wx_loop ?_)
  simp only [evH, evX, evN, ↓reduceIte, Nat.reduceEqDiff]
  refine mr_loop1 hl (fun x hx => ih x hx (fit_sub hf x hx)) (fun tm t1 hany => ?_) (fun tm hp hany t2 => ?_) v.l.length 0 (by omega) rfl
  ·have hmL : mayL v.l = true := by rw [mayL_any, ← hbad, hany]; rfl
   have hle : ∀ (b : Bool), (decide ((v.l.length : Int) = 0)) = v.l.isEmpty := fun _ => by cases v.l <;> simp; omega
   refine wx_seq (wx_seq ?_)
   refine wx_region fun K hK => ?_
   simp only [evW, evX, evM, evN, ↓reduceIte, t1]
   refine hK _ _ ?_; clear hK K
   refine wx_block ?_
   by_cases h1 : v.kind = 1
   ·refine wx_seq (wx_region fun K hK => ?_)
    simp only [evW, evX, evM, evN, ↓reduceIte, eq_true h1]
    refine hK _ _ ?_; clear hK K
    refine wx_cond true rfl (fun _ => ?_) (fun h => by cases h)
    by_cases hse : v.s = []
    ·refine wx_seq (wx_region fun K hK => ?_)
     simp only [evW, evX, evM, evN, ↓reduceIte, Nat.reduceEqDiff, t1, eq_true hse, gvalRows_length]
     refine hK _ _ ?_; clear hK K
     refine wx_ret ⟨.inr rfl, ?_⟩
     simp only [evR, evX, evC, evN, ↓reduceIte, far, c110]
     rw [hR, mayV_eq, hmL, hle true]; simp [h1, hse, numOk, rowOk]
    ·refine wx_seq (wx_region fun K hK => ?_)
     simp only [evW, evX, evM, evN, ↓reduceIte, Nat.reduceEqDiff, t1, hse]
     refine hK _ _ ?_; clear hK K
     refine wx_ret ⟨.inr rfl, ?_⟩
     simp only [evR, evX, evC, evN, ↓reduceIte, far, c110]
     rw [hR, mayV_eq, hmL]; simp [h1, hse, numOk, rowOk]
   ·refine wx_seq (wx_region fun K hK => ?_)
    simp only [evW, evX, evM, evN, ↓reduceIte, h1]
    refine hK _ _ ?_; clear hK K
    refine wx_cond false rfl (fun h => by cases h) (fun _ => ?_)
    by_cases h2 : v.kind = 2
    ·refine wx_seq (wx_region fun K hK => ?_)
     simp only [evW, evX, evM, evN, ↓reduceIte, Nat.reduceEqDiff, eq_true h2]
     refine hK _ _ ?_; clear hK K
     refine wx_cond true rfl (fun _ => ?_) (fun h => by cases h)
     by_cases hse : v.s = []
     ·by_cases hle0 : (v.l.length : Int) = 0
      ·have hemp : v.l = [] := List.length_eq_zero_iff.1 (by omega)
       by_cases hi0 : v.i = 0
       ·refine wx_seq (wx_region fun K hK => ?_)
        simp only [evW, evX, evM, evN, ↓reduceIte, Nat.reduceEqDiff, t1, eq_true hse, gvalRows_length, eq_true hle0, eq_true hi0]
        refine hK _ _ ?_; clear hK K
        refine wx_ret ⟨.inr rfl, ?_⟩
        simp only [evR, evX, evC, evN, ↓reduceIte, far, c110]
        rw [hR, mayV_eq, hmL]; simp [h2, hse, numOk, rowOk, hemp, hi0]
       ·refine wx_seq (wx_region fun K hK => ?_)
        simp only [evW, evX, evM, evN, ↓reduceIte, Nat.reduceEqDiff, t1, eq_true hse, gvalRows_length, eq_true hle0, hi0]
        refine hK _ _ ?_; clear hK K
        refine wx_ret ⟨.inr rfl, ?_⟩
        simp only [evR, evX, evC, evN, ↓reduceIte, far, c110]
        rw [hR, mayV_eq, hmL]; simp [h2, hse, numOk, rowOk, hemp, hi0]
      ·have hne : v.l.isEmpty = false := (hle true).symm.trans (decide_eq_false hle0)
       refine wx_seq (wx_region fun K hK => ?_)
       simp only [evW, evX, evM, evN, ↓reduceIte, Nat.reduceEqDiff, t1, eq_true hse, gvalRows_length, hle0]
       refine hK _ _ ?_; clear hK K
       refine wx_ret ⟨.inr rfl, ?_⟩
       simp only [evR, evX, evC, evN, ↓reduceIte, far, c110]
       rw [hR, mayV_eq, hmL]; simp [h2, hse, numOk, rowOk, hne]
     ·refine wx_seq (wx_region fun K hK => ?_)
      simp only [evW, evX, evM, evN, ↓reduceIte, Nat.reduceEqDiff, t1, hse]
      refine hK _ _ ?_; clear hK K
      refine wx_ret ⟨.inr rfl, ?_⟩
      simp only [evR, evX, evC, evN, ↓reduceIte, far, c110]
      rw [hR, mayV_eq, hmL]; simp [h2, hse, numOk, rowOk]
    ·refine wx_seq (wx_region fun K hK => ?_)
     simp only [evW, evX, evM, evN, ↓reduceIte, Nat.reduceEqDiff, h2]
     refine hK _ _ ?_; clear hK K
     refine wx_cond false rfl (fun h => by cases h) (fun _ => ?_)
     by_cases h3 : v.kind = 3
     ·refine wx_seq (wx_region fun K hK => ?_)
      simp only [evW, evX, evM, evN, ↓reduceIte, Nat.reduceEqDiff, eq_true h3]
      refine hK _ _ ?_; clear hK K
      refine wx_cond true rfl (fun _ => ?_) (fun h => by cases h)
      by_cases hi0 : v.i = 0
      ·refine wx_seq (wx_region fun K hK => ?_)
       simp only [evW, evX, evM, evN, ↓reduceIte, Nat.reduceEqDiff, t1, eq_true hi0, gvalRows_length]
       refine hK _ _ ?_; clear hK K
       refine wx_ret ⟨.inr rfl, ?_⟩
       simp only [evR, evX, evC, evN, ↓reduceIte, far, c110]
       rw [hR, mayV_eq, hmL, hle true]; simp [h3, numOk, rowOk, hi0]
      ·refine wx_seq (wx_region fun K hK => ?_)
       simp only [evW, evX, evM, evN, ↓reduceIte, Nat.reduceEqDiff, t1, hi0]
       refine hK _ _ ?_; clear hK K
       refine wx_ret ⟨.inr rfl, ?_⟩
       simp only [evR, evX, evC, evN, ↓reduceIte, far, c110]
       rw [hR, mayV_eq, hmL]; simp [h3, numOk, rowOk, hi0]
     ·refine wx_seq (wx_region fun K hK => ?_)
      simp only [evW, evX, evM, evN, ↓reduceIte, Nat.reduceEqDiff, h3]
      refine hK _ _ ?_; clear hK K
      refine wx_cond false rfl (fun h => by cases h) (fun _ => ?_)
      by_cases h7 : v.kind = 7
      ·refine wx_seq (wx_region fun K hK => ?_)
       simp only [evW, evX, evM, evN, ↓reduceIte, Nat.reduceEqDiff, eq_true h7]
       refine hK _ _ ?_; clear hK K
       refine wx_cond true rfl (fun _ => ?_) (fun h => by cases h)
       by_cases hse : v.s = []
       ·by_cases hle0 : (v.l.length : Int) = 0
        ·have hemp : v.l = [] := List.length_eq_zero_iff.1 (by omega)
         by_cases hi0 : 1 ≤ v.i
         ·refine wx_seq (wx_region fun K hK => ?_)
          simp only [evW, evX, evM, evN, ↓reduceIte, Nat.reduceEqDiff, t1, eq_true hse, gvalRows_length, eq_true hle0, eq_true hi0]
          refine hK _ _ ?_; clear hK K
          refine wx_ret ⟨.inr rfl, ?_⟩
          simp only [evR, evX, evC, evN, ↓reduceIte, far, c110]
          rw [hR, mayV_eq, hmL]; simp [h7, hse, numOk, rowOk, hemp, hi0]
         ·refine wx_seq (wx_region fun K hK => ?_)
          simp only [evW, evX, evM, evN, ↓reduceIte, Nat.reduceEqDiff, t1, eq_true hse, gvalRows_length, eq_true hle0, hi0]
          refine hK _ _ ?_; clear hK K
          refine wx_ret ⟨.inr rfl, ?_⟩
          simp only [evR, evX, evC, evN, ↓reduceIte, far, c110]
          rw [hR, mayV_eq, hmL]; simp [h7, hse, numOk, rowOk, hemp, hi0]
        ·have hne : v.l.isEmpty = false := (hle true).symm.trans (decide_eq_false hle0)
         refine wx_seq (wx_region fun K hK => ?_)
         simp only [evW, evX, evM, evN, ↓reduceIte, Nat.reduceEqDiff, t1, eq_true hse, gvalRows_length, hle0]
         refine hK _ _ ?_; clear hK K
         refine wx_ret ⟨.inr rfl, ?_⟩
         simp only [evR, evX, evC, evN, ↓reduceIte, far, c110]
         rw [hR, mayV_eq, hmL]; simp [h7, hse, numOk, rowOk, hne]
       ·refine wx_seq (wx_region fun K hK => ?_)
        simp only [evW, evX, evM, evN, ↓reduceIte, Nat.reduceEqDiff, t1, hse]
        refine hK _ _ ?_; clear hK K
        refine wx_ret ⟨.inr rfl, ?_⟩
        simp only [evR, evX, evC, evN, ↓reduceIte, far, c110]
        rw [hR, mayV_eq, hmL]; simp [h7, hse, numOk, rowOk]
      ·refine wx_seq (wx_region fun K hK => ?_)
       simp only [evW, evX, evM, evN, ↓reduceIte, Nat.reduceEqDiff, h7]
       refine hK _ _ ?_; clear hK K
       refine wx_cond false rfl (fun h => by cases h) (fun _ => wx_skip ?_)
       refine wx_seq (wx_seq ?_)
       by_cases hi0 : v.i = 0
       ·by_cases hse : v.s = []
        ·by_cases h4 : v.kind < 4
         ·refine wx_region fun K hK => ?_
          simp only [evW, evX, evM, evN, ↓reduceIte, Nat.reduceEqDiff, not_true_eq_false, t1, eq_true hi0, eq_true hse, h4]
          refine hK _ _ ?_; clear hK K
          refine wx_cond true rfl (fun _ => ?_) (fun h => by cases h)
          refine wx_seq (wx_region fun K hK => ?_)
          simp only [evW, evX, evM, evN]
          refine hK _ _ ?_; clear hK K
          refine wx_ret ⟨.inr rfl, ?_⟩
          simp only [evR, evX, evC, evN, ↓reduceIte, far, c110]
          rw [hR, mayV_eq, show decide (1 ≤ v.kind ∧ v.kind ≤ 7) = false from decide_eq_false (by omega)]; rfl
         ·by_cases h6 : 6 < v.kind
          ·refine wx_region fun K hK => ?_
           simp only [evW, evX, evM, evN, ↓reduceIte, Nat.reduceEqDiff, not_true_eq_false, t1, eq_true hi0, eq_true hse, h4, h6]
           refine hK _ _ ?_; clear hK K
           refine wx_cond true rfl (fun _ => ?_) (fun h => by cases h)
           refine wx_seq (wx_region fun K hK => ?_)
           simp only [evW, evX, evM, evN]
           refine hK _ _ ?_; clear hK K
           refine wx_ret ⟨.inr rfl, ?_⟩
           simp only [evR, evX, evC, evN, ↓reduceIte, far, c110]
           rw [hR, mayV_eq, show decide (1 ≤ v.kind ∧ v.kind ≤ 7) = false from decide_eq_false (by omega)]; rfl
          ·have hrow : mayV v = rowOk v.kind v.l := by
            rw [mayV_eq, hmL, show decide (1 ≤ v.kind ∧ v.kind ≤ 7) = true from decide_eq_true (by omega)]
            simp [hse, numOk, h1, h2, h7, hi0]
           refine wx_region fun K hK => ?_
           simp only [evW, evX, evM, evN, ↓reduceIte, Nat.reduceEqDiff, not_true_eq_false, t1, eq_true hi0, eq_true hse, h4, h6]
           refine hK _ _ ?_; clear hK K
           refine wx_cond false rfl (fun h => by cases h) (fun _ => wx_skip ?_)
           refine wx_seq (wx_seq ?_)
           refine wx_region fun K hK => ?_
           simp only [evW, evX, evM, evN]
           refine hK _ _ ?_; clear hK K
           refine wx_block (wx_loop ?_)
           simp only [evH, evX, evN, ↓reduceIte, Nat.reduceEqDiff, t1]
           refine mr_loop2 hl (by omega) (by omega) (fun x hx y hy => hcmp x y (hsub x hx) (hsub y hy)) (fun tm ho => ?_) (fun tm hp ho t2 => ?_) v.l.length 0 (by omega) (okFrom_zero (by omega) (by omega) _).symm (fun _ j hj => by omega)
           ·refine wx_seq (wx_region fun K hK => ?_)
            simp only [evW, evX, evM, evN]
            refine hK _ _ ?_; clear hK K
            refine wx_ret ⟨.inr rfl, ?_⟩
            simp only [evR, evX, evC, evN, ↓reduceIte, far, c110]
            rw [hR, hrow, ho]
           ·refine ⟨.inr rfl, ?_⟩
            simp only [evR, evC, evN, far, c110, t2]
            rw [hR, hrow, ho]
        ·refine wx_region fun K hK => ?_
         simp only [evW, evX, evM, evN, ↓reduceIte, Nat.reduceEqDiff, not_true_eq_false, not_false_eq_true, t1, eq_true hi0, hse]
         refine hK _ _ ?_; clear hK K
         refine wx_cond true rfl (fun _ => ?_) (fun h => by cases h)
         refine wx_seq (wx_region fun K hK => ?_)
         simp only [evW, evX, evM, evN]
         refine hK _ _ ?_; clear hK K
         refine wx_ret ⟨.inr rfl, ?_⟩
         simp only [evR, evX, evC, evN, ↓reduceIte, far, c110]
         rw [hR, mayV_eq]; simp [hse, h3]
       ·refine wx_region fun K hK => ?_
        simp only [evW, evX, evM, evN, ↓reduceIte, Nat.reduceEqDiff, not_false_eq_true, t1, hi0]
        refine hK _ _ ?_; clear hK K
        refine wx_cond true rfl (fun _ => ?_) (fun h => by cases h)
        refine wx_seq (wx_region fun K hK => ?_)
        simp only [evW, evX, evM, evN]
        refine hK _ _ ?_; clear hK K
        refine wx_ret ⟨.inr rfl, ?_⟩
        simp only [evR, evX, evC, evN, ↓reduceIte, far, c110]
        rw [hR, mayV_eq]; simp [numOk, h1, h2, h7, hi0]
  ·refine ⟨.inr rfl, ?_⟩
   simp only [evR, evC, evN, far, c110, t2]
   have hmL : mayL v.l = false := by rw [mayL_any, ← hbad, hany]; rfl
   rw [hR, mayV_eq, hmL]; simp
end Ab.Vx
