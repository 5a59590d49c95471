/-
 A value of the caller's own: mine, Ins.
-/
import Derived.Test.YtblhbdagpefloaaGreatDoorVx13
import Derived.Test.YtblhbdagpefloaaGreatDoorPack5
import Derived.Test.YtblhbdagpefloaaGreatDoorPack4
namespace Ab.Vx
open Go
set_option linter.unusedVariables false
set_option linter.unusedSimpArgs false
set_option maxRecDepth 100000
variable {E : Nat → Option Fn}
def mineR (v : GVal) : V × List (Option Obj) := (.agg [.d (.i .i64 v.kind), .d (.i .i64 v.i), .d (.s v.s), .arr 0 0 0 v.l.length], [some (.arr 0 4 ((gvalRows v.l).map ofDs))])
theorem clone_call (h146 : E 146 = some (.prim (cloneImpl 4 56))) (l : List GVal) (hl : l.length ≤ 1000) : lcall E 146 [.d (.l 4 (gvalRows l))] [] = some (.arr 0 0 0 l.length, [some (.arr 0 4 ((gvalRows l).map ofDs))]) := by
 have r : roomy (gvalRows l).length 56 = true := roomy_in (by rw [gvalRows_length]; omega)
 rw [gvalRows_length] at r
 rw [lcall_prim h146]
 simp only [cloneImpl, gvalRows_length, r, and_self, if_true]
theorem toDs_ofDs : ∀ (ds : List D), V.toDs (ofDs ds) = some ds
 | [] => rfl
 | d :: ds => by
  have := toDs_ofDs ds
  unfold ofDs at *
  simp only [List.map_cons, V.toDs, V.toD, this]
theorem rowsD_ofDs : ∀ (rs : List (List D)), rowsD (rs.map ofDs) = some rs
 | [] => rfl
 | r :: rs => by simp only [List.map_cons, rowsD, toDs_ofDs, rowsD_ofDs rs]
theorem lend_rows (obj : Nat → Option Obj) {id : Nat} (l : List GVal) (hl : l.length ≤ 1001) (ho : obj id = some (.arr 0 4 ((gvalRows l).map ofDs))) : V.lend obj far (.arr id 0 0 l.length) = some (.l 4 (gvalRows l)) := by
 have h2 : (gvalRows l).take l.length = gvalRows l := by rw [← gvalRows_length, List.take_length]
 have := lend_arr (len := l.length) (off := 0) (n := 4) ho (fun r hr => by
  rw [gvalRows_eq] at hr
  obtain ⟨x, _, rfl⟩ := List.mem_map.1 hr
  simp [row_eq]) (by rw [gvalRows_length]; omega) (by rw [gvalRows_length]; omega)
 rw [this, List.drop_zero, h2]
theorem refsRows_vals : ∀ (l : List (List D)), refsRows (l.map ofDs) = []
 | [] => rfl
 | r :: l => by
  have : ∀ (ds : List D), V.refsAll (ofDs ds) = [] := fun ds => by
   induction ds with
   | nil => rfl
   | cons d ds ih => unfold ofDs at *; simp only [List.map_cons, V.refsAll, V.refs, ih, List.nil_append]
  simp only [List.map_cons, refsRows, this, refsRows_vals l, List.nil_append]
theorem settle_mine (a b c : D) (l : List GVal) (hl : l.length ≤ 1001) : settle 0 (.agg [.d a, .d b, .d c, .arr 0 0 0 l.length]) [some (.arr 0 4 ((gvalRows l).map ofDs))] = some (.agg [.d a, .d b, .d c, .d (.l 4 (gvalRows l))], []) := by
 have h1 := lend_rows (fun i => ([some (Obj.arr 0 4 ((gvalRows l).map ofDs))][i]?).join) (id := 0) l hl rfl
 have h2 : reach (fun i => ([some (Obj.arr 0 4 ((gvalRows l).map ofDs))][i]?).join) far [0] [] = some [0] := by simp [reach, far, Obj.refs, refsRows_vals]
 have h3 : reach (fun i => ([some (Obj.arr 0 4 ((gvalRows l).map ofDs))][i]?).join) far [] [] = some [] := rfl
 have hf : frzA 0 (fun i => ([some (Obj.arr 0 4 ((gvalRows l).map ofDs))][i]?).join) (.agg [.d a, .d b, .d c, .arr 0 0 0 l.length]) = some (.agg [.d a, .d b, .d c, .d (.l 4 (gvalRows l))]) := by
  simp only [frzA, frzV, frzAll, frz1, Nat.le_refl, if_true, h1]
 unfold settle
 rw [show ansIds 0 (.agg [.d a, .d b, .d c, .arr 0 0 0 l.length]) = [0] by simp [ansIds, valIds, arrIdsAll, V.arrIds]]
 simp only [hf, h2]
 simp [V.refs, V.refsAll, h3, renObjs, V.ren, V.renAll]
theorem renAll_data (f g : Nat → Nat) : ∀ (ds : List D), V.renAll f g (ofDs ds) = ofDs ds
 | [] => rfl
 | d :: ds => by
  have := renAll_data f g ds
  unfold ofDs at *
  simp only [List.map_cons, V.renAll, V.ren, this]
theorem renRows_data (f g : Nat → Nat) : ∀ (rs : List (List D)), renRows f g (rs.map ofDs) = rs.map ofDs
 | [] => rfl
 | r :: rs => by simp only [List.map_cons, renRows, renAll_data, renRows_data f g rs]
theorem underAll_data (n : Nat) : ∀ (ds : List D), V.underAll n (ofDs ds) = true
 | [] => rfl
 | d :: ds => by
  have := underAll_data n ds
  unfold ofDs at *
  simp only [List.map_cons, V.underAll, V.under, this, Bool.and_self]
theorem underRows_data (n : Nat) : ∀ (rs : List (List D)), underRows n (rs.map ofDs) = true
 | [] => rfl
 | r :: rs => by simp only [List.map_cons, underRows, underAll_data, underRows_data n rs, Bool.and_self]
theorem normRow_data (h : List (Option Obj)) : ∀ (ds : List D), (ofDs ds).map (normC h) = ofDs ds
 | [] => rfl
 | d :: ds => by
  have := normRow_data h ds
  unfold ofDs at *
  simp only [List.map_cons, normC, V.fine, if_true, this]
theorem normRows_data (h : List (Option Obj)) : ∀ (rs : List (List D)), (rs.map ofDs).map (fun r => r.map (normC h)) = rs.map ofDs
 | [] => rfl
 | r :: rs => by simp only [List.map_cons, normRow_data, normRows_data h rs]
theorem refsAll_data : ∀ (ds : List D), V.refsAll (ofDs ds) = []
 | [] => rfl
 | d :: ds => by
  have := refsAll_data ds
  unfold ofDs at *
  simp only [List.map_cons, V.refsAll, V.refs, this, List.append_nil]
theorem refsRows_data : ∀ (rs : List (List D)), refsRows (rs.map ofDs) = []
 | [] => rfl
 | r :: rs => by simp only [List.map_cons, refsRows, refsAll_data, refsRows_data rs, List.append_nil]
theorem range_one (a : Nat) : List.range' a 1 = [a] := rfl
def mineLoop : CCode := match c132.body with
 | .seq _ (.seq _ (.seq (.seq _ (.block _ (.loop _ c))) _)) => c
 | _ => .skip
theorem mine_loop {v : GVal} (hl : v.l.length ≤ 1000) (hsl : ∀ x ∈ v.l, x.l.length ≤ 1000) (hm : ∀ x ∈ v.l, lcall E 132 [x.arg] [] = some (mineR x)) {Q : Ex → St → Prop}
  (hx : ∀ tm, look tm 1 = .ptr 0 0 → look tm 2 = .ptr 1 0 → look tm 3 = .arr 2 0 0 v.l.length → Q (.exit 0) ⟨tm, [vbox v, zbox, some (.arr 0 4 ((gvalRows v.l).map ofDs)), none, none, none]⟩) :
  ∀ (m i : Nat), i + m = v.l.length →
   LX E mineLoop ⟨[1, 2, 3, 9, 10, 11], [], [], [], [], true⟩ 6 ⟨[(1, .ptr 0 0), (2, .ptr 1 0), (3, .arr 2 0 0 v.l.length), (9, .arr 2 0 0 v.l.length), (10, .d (.i .i64 v.l.length)), (11, .d (.i .i64 i))], [vbox v, zbox, some (.arr 0 4 ((gvalRows v.l).map ofDs)), none, none, none]⟩ Q := by
 intro m
 induction m with
 | zero =>
  intro i hi
  have hn : ¬ ((i : Int) < v.l.length) := by omega
  refine lx_step (wx_seq ?_)
  refine wx_region fun K hK => ?_
  simp only [evW, evX, evM, evN, ↓reduceIte, Nat.reduceEqDiff, Nat.reduceAdd, hn]
  refine hK _ _ ?_; clear hK K
  refine wx_seq (wx_cond false rfl (fun h => by cases h) (fun _ => wx_exit ?_))
  exact hx _ rfl rfl rfl
 | succ m ih =>
  intro i hi
  have hy : (i : Int) < v.l.length := by omega
  have la : i < v.l.length := by omega
  have h0 : (0 : Int) ≤ i := by omega
  have hr : ∀ x : GVal, ofDs (GVal.row x) = [.d (.i .i64 x.kind), .d (.i .i64 x.i), .d (.s x.s), .d (.l 4 (gvalRows x.l))] := fun x => by rw [row_eq]; rfl
  have ga : ((gvalRows v.l).map ofDs)[i]? = some [.d (.i .i64 v.l[i].kind), .d (.i .i64 v.l[i].i), .d (.s v.l[i].s), .d (.l 4 (gvalRows v.l[i].l))] := by rw [List.getElem?_map, gvalRows_get, List.getElem?_eq_getElem la, ← hr]; rfl
  have hcall := hm v.l[i] (List.getElem_mem la)
  have hsx := hsl v.l[i] (List.getElem_mem la)
  have hset : ((gvalRows v.l).map ofDs).set i [.d (.i .i64 v.l[i].kind), .d (.i .i64 v.l[i].i), .d (.s v.l[i].s), .d (.l 4 (gvalRows v.l[i].l))] = (gvalRows v.l).map ofDs := by
   apply List.ext_getElem?
   intro j
   rw [List.getElem?_set]
   split
   ·rename_i e; subst e; rw [ga, if_pos]; simpa [gvalRows_length] using la
   ·rfl
  have w : IntKind.i64.wrap ((i : Int) + 1) = ((i + 1 : Nat) : Int) := by rw [i64_in (by omega) (by omega)]; omega
  generalize v.l[i] = x at *
  refine lx_step (wx_seq ?_)
  refine wx_region fun K hK => ?_
  simp only [evW, evX, evM, evN, ↓reduceIte, Nat.reduceEqDiff, Nat.reduceAdd, hy]
  refine hK _ _ ?_; clear hK K
  refine wx_seq (wx_cond true rfl (fun _ => wx_skip ?_) (fun h => by cases h))
  refine wx_seq (wx_block ?_)
  refine wx_seq (wx_region fun K hK => ?_)
  simp only [evW, evX, evM, evN, ↓reduceIte, Nat.reduceEqDiff, Nat.reduceAdd, Nat.reduceLeDiff, hy, h0, Int.toNat_natCast, ga]
  refine hK _ _ ?_; clear hK K
  have hst : ∀ hp, stA 4 2 0 i 0 hp (some [.d (.i .i64 x.kind), .d (.i .i64 x.i), .d (.s x.s), .d (.l 4 (gvalRows x.l))]) (some (.arr 0 4 ((gvalRows v.l).map ofDs))) = some (hp.set 2 (some (.arr 0 4 ((gvalRows v.l).map ofDs)))) := fun hp => by
   simp [stA, ga, over, hset]
  have hsm : ∀ a b c, settle 0 (.agg [.d a, .d b, .d c, .arr 0 0 0 x.l.length]) [some (.arr 0 4 ((gvalRows x.l).map ofDs))] = some (.agg [.d a, .d b, .d c, .d (.l 4 (gvalRows x.l))], []) := fun a b c => settle_mine a b c x.l (by omega)
  refine wx_region fun K hK => ?_
  simp only [evW, evX, evM, evN, evC, far, ↓reduceIte, Nat.reduceEqDiff, Nat.reduceAdd, Nat.reduceLeDiff, hcall, mineR, hsm, hy, h0, Int.toNat_natCast, hst]
  refine hK _ _ ?_; clear hK K
  refine wx_region fun K hK => ?_
  simp only [evW, evX, evM, evN, ↓reduceIte, Nat.reduceEqDiff, Nat.reduceAdd, w]
  refine hK _ _ ?_; clear hK K
  refine ⟨_, ?_, ih (i + 1) (by omega)⟩
  simp only [evH, evX, evN, ↓reduceIte, Nat.reduceEqDiff, Nat.reduceLT, underRows_data, normRows_data]
theorem mine_ok (h132 : E 132 = some (.code c132)) (h146 : E 146 = some (.prim (cloneImpl 4 56))) {v : GVal} (h : Small v) : lcall E 132 [v.arg] [] = some (mineR v) := by
 induction h with
 | mk hl hs ih =>
  rename_i v
  have hc := clone_call h146 v.l hl
  refine call_wx h132 ?_
  refine wx_seq (wx_region fun K hK => ?_)
  simp only [evW, evX, evM, evN, ↓reduceIte, Nat.reduceAdd]
  refine hK _ _ ?_; clear hK K
  refine wx_seq (wx_region fun K hK => ?_)
  simp only [evW, evX, evM, evN, evC, far, ↓reduceIte, Nat.reduceEqDiff, Nat.reduceAdd, Nat.reduceLeDiff, Nat.reduceSub, Nat.reduceLT, hc, renRows_data, range_one]
  refine hK _ _ ?_; clear hK K
  refine wx_seq (wx_seq ?_)
  refine wx_region fun K hK => ?_
  simp only [evW, evX, evM, evN, ↓reduceIte, Nat.reduceAdd]
  refine hK _ _ ?_; clear hK K
  refine wx_block (wx_loop ?_)
  simp only [evH, evX, evN, ↓reduceIte, Nat.reduceEqDiff, Nat.reduceAdd]
  refine mine_loop hl (fun x hx => (hs x hx).len) ih (fun tm t1 t2 t3 => ?_) v.l.length 0 (by omega)
  refine wx_seq (wx_region fun K hK => ?_)
  simp only [evW, evX, evM, evN, ↓reduceIte, Nat.reduceEqDiff, Nat.reduceAdd, Nat.reduceLeDiff, t1, t3]
  refine hK _ _ ?_; clear hK K
  refine wx_seq (wx_region fun K hK => ?_)
  simp only [evW, evX, evM, evN, ↓reduceIte, Nat.reduceEqDiff, Nat.reduceAdd, Nat.reduceLeDiff, t1, t2]
  refine hK _ _ ?_; clear hK K
  refine wx_ret ⟨.inr rfl, ?_⟩
  simp only [evR, evX, evC, evN, ↓reduceIte, Nat.reduceEqDiff, Nat.reduceAdd, far, c132, t2, mineR, renRows_data, refsRows_data]
end Ab.Vx
