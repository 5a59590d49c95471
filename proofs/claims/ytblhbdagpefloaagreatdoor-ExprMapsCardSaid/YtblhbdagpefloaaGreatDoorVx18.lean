/-
 Eval: what is reckoned, as a value of its own.
-/
import Derived.Test.YtblhbdagpefloaaGreatDoorX9
namespace Ab.Vx
open Go
set_option linter.unusedVariables false
set_option linter.unusedSimpArgs false
set_option maxRecDepth 100000
variable {E : Nat → Option Fn}
def mineLoop2 : CCode := match c276.body with
 | .seq _ (.seq _ (.seq (.seq _ (.block _ (.loop _ c))) _)) => c
 | _ => .skip
theorem mine_loop2 {v : GVal} (hl : v.l.length ≤ 1000) (hsl : ∀ x ∈ v.l, x.l.length ≤ 1000) (hm : ∀ x ∈ v.l, lcall E 276 [x.arg] [] = some (mineR x)) {Q : Ex → St → Prop}
  (hx : ∀ tm, look tm 1 = .ptr 0 0 → look tm 2 = .ptr 1 0 → look tm 3 = .arr 2 0 0 v.l.length → Q (.exit 0) ⟨tm, [vbox v, zbox, some (.arr 0 4 ((gvalRows v.l).map ofDs)), none, none, none]⟩) :
  ∀ (m i : Nat), i + m = v.l.length →
   LX E mineLoop2 ⟨[1, 2, 3, 9, 10, 11], [], [], [], [], true⟩ 6 ⟨[(1, .ptr 0 0), (2, .ptr 1 0), (3, .arr 2 0 0 v.l.length), (9, .arr 2 0 0 v.l.length), (10, .d (.i .i64 v.l.length)), (11, .d (.i .i64 i))], [vbox v, zbox, some (.arr 0 4 ((gvalRows v.l).map ofDs)), none, none, none]⟩ Q := by
 intro m
 induction m with
 | zero =>
  intro i hi
  have hn : ¬ ((i : Int) < v.l.length) := by omega
  refine lx_step (wx_seq ?_)
  refine wx_region fun K hK => ?_
  simp only [evW, evX, evM, evN, ↓reduceIte, Nat.reduceEqDiff, Nat.reduceAdd, hn]
  refine hK _ _ ?_; clear hK K
  refine wx_seq (wx_cond false rfl (fun h => by cases h) (fun _ => wx_exit ?_))
  exact hx _ rfl rfl rfl
 | succ m ih =>
  intro i hi
  have hy : (i : Int) < v.l.length := by omega
  have la : i < v.l.length := by omega
  have h0 : (0 : Int) ≤ i := by omega
  have hr : ∀ x : GVal, ofDs (GVal.row x) = [.d (.i .i64 x.kind), .d (.i .i64 x.i), .d (.s x.s), .d (.l 4 (gvalRows x.l))] := fun x => by rw [row_eq]; rfl
  have ga : ((gvalRows v.l).map ofDs)[i]? = some [.d (.i .i64 v.l[i].kind), .d (.i .i64 v.l[i].i), .d (.s v.l[i].s), .d (.l 4 (gvalRows v.l[i].l))] := by rw [List.getElem?_map, gvalRows_get, List.getElem?_eq_getElem la, ← hr]; rfl
  have hcall := hm v.l[i] (List.getElem_mem la)
  have hsx := hsl v.l[i] (List.getElem_mem la)
  have hset : ((gvalRows v.l).map ofDs).set i [.d (.i .i64 v.l[i].kind), .d (.i .i64 v.l[i].i), .d (.s v.l[i].s), .d (.l 4 (gvalRows v.l[i].l))] = (gvalRows v.l).map ofDs := by
   apply List.ext_getElem?
   intro j
   rw [List.getElem?_set]
   split
   ·rename_i e; subst e; rw [ga, if_pos]; simpa [gvalRows_length] using la
   ·rfl
  have w : IntKind.i64.wrap ((i : Int) + 1) = ((i + 1 : Nat) : Int) := by rw [i64_in (by omega) (by omega)]; omega
  generalize v.l[i] = x at *
  refine lx_step (wx_seq ?_)
  refine wx_region fun K hK => ?_
  simp only [evW, evX, evM, evN, ↓reduceIte, Nat.reduceEqDiff, Nat.reduceAdd, hy]
  refine hK _ _ ?_; clear hK K
  refine wx_seq (wx_cond true rfl (fun _ => wx_skip ?_) (fun h => by cases h))
  refine wx_seq (wx_block ?_)
  refine wx_seq (wx_region fun K hK => ?_)
  simp only [evW, evX, evM, evN, ↓reduceIte, Nat.reduceEqDiff, Nat.reduceAdd, Nat.reduceLeDiff, hy, h0, Int.toNat_natCast, ga]
  refine hK _ _ ?_; clear hK K
  have hst : ∀ hp, stA 4 2 0 i 0 hp (some [.d (.i .i64 x.kind), .d (.i .i64 x.i), .d (.s x.s), .d (.l 4 (gvalRows x.l))]) (some (.arr 0 4 ((gvalRows v.l).map ofDs))) = some (hp.set 2 (some (.arr 0 4 ((gvalRows v.l).map ofDs)))) := fun hp => by
   simp [stA, ga, over, hset]
  have hsm : ∀ a b c, settle 0 (.agg [.d a, .d b, .d c, .arr 0 0 0 x.l.length]) [some (.arr 0 4 ((gvalRows x.l).map ofDs))] = some (.agg [.d a, .d b, .d c, .d (.l 4 (gvalRows x.l))], []) := fun a b c => settle_mine a b c x.l (by omega)
  refine wx_region fun K hK => ?_
  simp only [evW, evX, evM, evN, evC, far, ↓reduceIte, Nat.reduceEqDiff, Nat.reduceAdd, Nat.reduceLeDiff, hcall, mineR, hsm, hy, h0, Int.toNat_natCast, hst]
  refine hK _ _ ?_; clear hK K
  refine wx_region fun K hK => ?_
  simp only [evW, evX, evM, evN, ↓reduceIte, Nat.reduceEqDiff, Nat.reduceAdd, w]
  refine hK _ _ ?_; clear hK K
  refine ⟨_, ?_, ih (i + 1) (by omega)⟩
  simp only [evH, evX, evN, ↓reduceIte, Nat.reduceEqDiff, Nat.reduceLT, underRows_data, normRows_data]
theorem mine2_ok (h276 : E 276 = some (.code c276)) (h146 : E 146 = some (.prim (cloneImpl 4 56))) {v : GVal} (h : Small v) : lcall E 276 [v.arg] [] = some (mineR v) := by
 induction h with
 | mk hl hs ih =>
  rename_i v
  have hc := clone_call h146 v.l hl
  refine call_wx h276 ?_
  refine wx_seq (wx_region fun K hK => ?_)
  simp only [evW, evX, evM, evN, ↓reduceIte, Nat.reduceAdd]
  refine hK _ _ ?_; clear hK K
  refine wx_seq (wx_region fun K hK => ?_)
  simp only [evW, evX, evM, evN, evC, far, ↓reduceIte, Nat.reduceEqDiff, Nat.reduceAdd, Nat.reduceLeDiff, Nat.reduceSub, Nat.reduceLT, hc, renRows_data, range_one]
  refine hK _ _ ?_; clear hK K
  refine wx_seq (wx_seq ?_)
  refine wx_region fun K hK => ?_
  simp only [evW, evX, evM, evN, ↓reduceIte, Nat.reduceAdd]
  refine hK _ _ ?_; clear hK K
  refine wx_block (wx_loop ?_)
  simp only [evH, evX, evN, ↓reduceIte, Nat.reduceEqDiff, Nat.reduceAdd]
  refine mine_loop2 hl (fun x hx => (hs x hx).len) ih (fun tm t1 t2 t3 => ?_) v.l.length 0 (by omega)
  refine wx_seq (wx_region fun K hK => ?_)
  simp only [evW, evX, evM, evN, ↓reduceIte, Nat.reduceEqDiff, Nat.reduceAdd, Nat.reduceLeDiff, t1, t3]
  refine hK _ _ ?_; clear hK K
  refine wx_seq (wx_region fun K hK => ?_)
  simp only [evW, evX, evM, evN, ↓reduceIte, Nat.reduceEqDiff, Nat.reduceAdd, Nat.reduceLeDiff, t1, t2]
  refine hK _ _ ?_; clear hK K
  refine wx_ret ⟨.inr rfl, ?_⟩
  simp only [evR, evX, evC, evN, ↓reduceIte, Nat.reduceEqDiff, Nat.reduceAdd, far, c276, t2, mineR, renRows_data, refsRows_data]
end Ab.Vx
