/-
 How values stand, how great they are: the document's answer, and the program's size.
-/
import Derived.Test.YtblhbdagpefloaaGreatDoorVx2
namespace Ab.Vx
open Go
set_option linter.unusedVariables false
set_option linter.unusedSimpArgs false
set_option maxRecDepth 100000
variable {E : Nat → Option Fn}
abbrev W64 (n : Int) : Int := IntKind.i64.wrap n
mutual
def sizeV : GVal → Int
 | .mk k i s l => sizeL (W64 (1 + W64 ((s.length : Int).tdiv 16))) l
def sizeL : Int → List GVal → Int
 | n, [] => n
 | n, x :: r => sizeL (W64 (n + sizeV x)) r
end
theorem sizeV_eq (v : GVal) : sizeV v = sizeL (W64 (1 + W64 ((v.s.length : Int).tdiv 16))) v.l := by cases v; simp only [sizeV, GVal.s, GVal.l]
def sizeLoop : CCode := match c113.body with
 | .seq _ (.seq _ (.seq (.seq _ (.block _ (.loop _ c))) _)) => c
 | _ => .skip
theorem size_loop {v : GVal} (hv : v.l.length ≤ 1000) (ih : ∀ x ∈ v.l, lcall E 113 [x.arg] [] = some (.d (.i .i64 (sizeV x)), [])) {T : Int} {Q : Ex → St → Prop} (hx : ∀ tm, look tm 3 = .d (.i .i64 T) → Q (.exit 0) ⟨tm, [vbox v]⟩) :
  ∀ (n i : Nat) (acc : Int), i + n = v.l.length → sizeL acc (v.l.drop i) = T → LX E sizeLoop ⟨[1, 3, 4], [], [], [], [], true⟩ 1 ⟨[(1, .ptr 0 0), (3, .d (.i .i64 acc)), (4, .d (.i .i64 i))], [vbox v]⟩ Q := by
 intro n
 induction n with
 | zero =>
  intro i acc hi hT
  have hn : ¬ ((i : Int) < v.l.length) := by omega
  rw [List.drop_eq_nil_of_le (by omega), sizeL] at hT
  refine lx_step (wx_seq (wx_seq ?_))
  refine wx_region fun K hK => ?_
  simp only [evW, evX, evM, evN, ↓reduceIte, Nat.reduceEqDiff, gvalRows_length, hn]
  refine hK _ _ ?_; clear hK K
  refine wx_cond false rfl (fun h => by cases h) (fun _ => wx_exit ?_)
  exact hx _ (by rw [← hT]; rfl)
 | succ n ihn =>
  intro i acc hi hT
  have hy : (i : Int) < v.l.length := by omega
  have la : i < v.l.length := by omega
  have h0 : (0 : Int) ≤ i := by omega
  have ga : (gvalRows v.l)[i]? = some (GVal.row v.l[i]) := by rw [gvalRows_get, List.getElem?_eq_getElem la]; rfl
  have hcall := ih v.l[i] (List.getElem_mem la)
  rw [drop_cons la, sizeL] at hT
  generalize v.l[i] = x at *
  have w : IntKind.i64.wrap ((i : Int) + 1) = ((i + 1 : Nat) : Int) := by rw [i64_in (by omega) (by omega)]; omega
  refine lx_step (wx_seq (wx_seq ?_))
  refine wx_region fun K hK => ?_
  simp only [evW, evX, evM, evN, ↓reduceIte, Nat.reduceEqDiff, gvalRows_length, hy]
  refine hK _ _ ?_; clear hK K
  refine wx_cond true rfl (fun _ => wx_skip ?_) (fun h => by cases h)
  refine wx_seq (wx_block ?_)
  refine wx_region fun K hK => ?_
  simp only [evW, evX, evM, evN, evC, far, ↓reduceIte, Nat.reduceEqDiff, Nat.reduceAdd, Nat.reduceLeDiff, h0, Int.toNat_natCast, ga, row_eq, hcall]
  refine hK _ _ ?_; clear hK K
  refine wx_region fun K hK => ?_
  simp only [evW, evX, evM, evN, ↓reduceIte, Nat.reduceEqDiff, w]
  refine hK _ _ ?_; clear hK K
  refine ⟨_, ?_, ihn (i + 1) _ (by omega) hT⟩
  simp only [evH, evX, evN, ↓reduceIte, Nat.reduceEqDiff, Nat.reduceLT]
theorem refSize_ok (h113 : E 113 = some (.code c113)) : ∀ (v : GVal), Small v → lcall E 113 [v.arg] [] = some (.d (.i .i64 (sizeV v)), []) := by
 intro v hs
 induction hs with
 | @mk v hl hsub ih =>
 refine call_wx h113 ?_
 refine wx_seq (wx_region fun K hK => ?_)
 simp only [evW, evX, evM, evN, ↓reduceIte]
 refine hK _ _ ?_; clear hK K
 refine wx_seq (wx_region fun K hK => ?_)
 simp only [evW, evX, evM, evN, ↓reduceIte, Nat.reduceEqDiff, Int.reduceEq]
 refine hK _ _ ?_; clear hK K
 refine wx_seq (wx_seq ?_)
 refine wx_region fun K hK => ?_
 simp only [evW, evX, evM, evN]
 refine hK _ _ ?_; clear hK K
 refine wx_block (wx_loop ?_)
 simp only [evH, evX, evN, ↓reduceIte, Nat.reduceEqDiff]
 refine size_loop hl ih (fun tm t3 => ?_) v.l.length 0 _ (by omega) rfl
 refine wx_seq (wx_region fun K hK => ?_)
 simp only [evW, evX, evM, evN, ↓reduceIte, t3]
 refine hK _ _ ?_; clear hK K
 refine wx_ret ⟨.inr rfl, ?_⟩
 simp only [evR, evX, evC, evN, ↓reduceIte, far, c113, sizeV_eq]
def sizeLoop2 : CCode := match c112.body with
 | .seq _ (.seq _ (.seq (.seq _ (.block _ (.loop _ c))) _)) => c
 | _ => .skip
theorem size_loop2 {v : GVal} (hv : v.l.length ≤ 1000) (ih : ∀ x ∈ v.l, lcall E 112 [x.arg] [] = some (.d (.i .i64 (sizeV x)), [])) {T : Int} {Q : Ex → St → Prop} (hx : ∀ tm, look tm 3 = .d (.i .i64 T) → Q (.exit 0) ⟨tm, [vbox v]⟩) :
  ∀ (n i : Nat) (acc : Int), i + n = v.l.length → sizeL acc (v.l.drop i) = T → LX E sizeLoop2 ⟨[3, 12, 13, 14], [], [], [], [], true⟩ 1 ⟨[(3, .d (.i .i64 acc)), (12, .d (.l 4 (gvalRows v.l))), (13, .d (.i .i64 v.l.length)), (14, .d (.i .i64 i))], [vbox v]⟩ Q := by
 intro n
 induction n with
 | zero =>
  intro i acc hi hT
  have hn : ¬ ((i : Int) < v.l.length) := by omega
  rw [List.drop_eq_nil_of_le (by omega), sizeL] at hT
  refine lx_step ?_
  refine wx_seq (wx_region fun K hK => ?_)
  simp only [evW, evX, evM, evN, ↓reduceIte, Nat.reduceEqDiff, hn]
  refine hK _ _ ?_; clear hK K
  refine wx_seq (wx_cond false rfl (fun h => by cases h) (fun _ => wx_exit ?_))
  exact hx _ (by rw [← hT]; rfl)
 | succ n ihn =>
  intro i acc hi hT
  have hy : (i : Int) < v.l.length := by omega
  have la : i < v.l.length := by omega
  have h0 : (0 : Int) ≤ i := by omega
  have ga : (gvalRows v.l)[i]? = some (GVal.row v.l[i]) := by rw [gvalRows_get, List.getElem?_eq_getElem la]; rfl
  have hcall := ih v.l[i] (List.getElem_mem la)
  rw [drop_cons la, sizeL] at hT
  generalize v.l[i] = x at *
  have w : IntKind.i64.wrap ((i : Int) + 1) = ((i + 1 : Nat) : Int) := by rw [i64_in (by omega) (by omega)]; omega
  refine lx_step ?_
  refine wx_seq (wx_region fun K hK => ?_)
  simp only [evW, evX, evM, evN, ↓reduceIte, Nat.reduceEqDiff, hy]
  refine hK _ _ ?_; clear hK K
  refine wx_seq (wx_cond true rfl (fun _ => wx_skip ?_) (fun h => by cases h))
  refine wx_seq (wx_block (wx_seq ?_))
  refine wx_region fun K hK => ?_
  simp only [evW, evX, evM, evN, ↓reduceIte, Nat.reduceEqDiff, Nat.reduceAdd, Nat.reduceLeDiff, h0, Int.toNat_natCast, ga, row_eq]
  refine hK _ _ ?_; clear hK K
  refine wx_region fun K hK => ?_
  simp only [evW, evX, evM, evN, evC, far, ↓reduceIte, Nat.reduceEqDiff, Nat.reduceAdd, Nat.reduceLeDiff, hcall]
  refine hK _ _ ?_; clear hK K
  refine wx_region fun K hK => ?_
  simp only [evW, evX, evM, evN, ↓reduceIte, Nat.reduceEqDiff, Nat.reduceAdd, w]
  refine hK _ _ ?_; clear hK K
  refine ⟨_, ?_, ihn (i + 1) _ (by omega) hT⟩
  simp only [evH, evX, evN, ↓reduceIte, Nat.reduceEqDiff]
theorem size_ok (h112 : E 112 = some (.code c112)) : ∀ (v : GVal), Small v → lcall E 112 [v.arg] [] = some (.d (.i .i64 (sizeV v)), []) := by
 intro v hs
 induction hs with
 | @mk v hl hsub ih =>
 refine call_wx h112 ?_
 refine wx_seq (wx_region fun K hK => ?_)
 simp only [evW, evX, evM, evN, ↓reduceIte]
 refine hK _ _ ?_; clear hK K
 refine wx_seq (wx_region fun K hK => ?_)
 simp only [evW, evX, evM, evN, ↓reduceIte, Nat.reduceEqDiff, Int.reduceEq]
 refine hK _ _ ?_; clear hK K
 refine wx_seq (wx_seq ?_)
 refine wx_region fun K hK => ?_
 simp only [evW, evX, evM, evN, ↓reduceIte, Nat.reduceEqDiff, gvalRows_length]
 refine hK _ _ ?_; clear hK K
 refine wx_block (wx_loop ?_)
 simp only [evH, evX, evN, ↓reduceIte, Nat.reduceEqDiff]
 refine size_loop2 hl ih (fun tm t3 => ?_) v.l.length 0 _ (by omega) rfl
 refine wx_seq (wx_region fun K hK => ?_)
 simp only [evW, evX, evM, evN, ↓reduceIte, t3]
 refine hK _ _ ?_; clear hK K
 refine wx_ret ⟨.inr rfl, ?_⟩
 simp only [evR, evX, evC, evN, ↓reduceIte, far, c112, sizeV_eq]
mutual
def szN : GVal → Nat
 | .mk k i s l => 1 + s.length / 16 + szL l
def szL : List GVal → Nat
 | [] => 0
 | x :: r => szN x + szL r
end
theorem szN_eq (v : GVal) : szN v = 1 + v.s.length / 16 + szL v.l := by cases v; simp only [szN, GVal.s, GVal.l]
theorem szL_mem : ∀ {l : List GVal} {x : GVal}, x ∈ l → szN x ≤ szL l
 | y :: r, x, h => by
  simp only [szL]
  rcases List.mem_cons.1 h with rfl | h
  ·omega
  ·have := szL_mem h; omega
theorem szN_sub {v x : GVal} (h : x ∈ v.l) : szN x < szN v := by
 have := szL_mem h
 rw [szN_eq v]; omega
theorem sizeL_fit : ∀ (l : List GVal) (n : Nat), n + szL l ≤ 1000000000000 → (∀ x ∈ l, sizeV x = szN x) → sizeL (n : Int) l = ((n + szL l : Nat) : Int)
 | [], n, _, _ => by simp [sizeL, szL]
 | x :: r, n, h, hx => by
  simp only [szL] at h
  simp only [sizeL, szL]
  rw [hx x (by simp)]
  have : W64 ((n : Int) + (szN x : Int)) = ((n + szN x : Nat) : Int) := by
   show IntKind.i64.wrap _ = _
   rw [i64_in (by omega) (by omega)]; omega
  rw [this, sizeL_fit r (n + szN x) (by omega) (fun y hy => hx y (by simp [hy]))]
  congr 1; omega
theorem sizeV_fit : ∀ (v : GVal), szN v ≤ 1000000000000 → sizeV v = szN v := by
 have main : ∀ (n : Nat) (v : GVal), szN v < n → szN v ≤ 1000000000000 → sizeV v = szN v := by
  intro n
  induction n with
  | zero => intro v h; omega
  | succ n ih =>
   intro v hn hv
   have hsub : ∀ x ∈ v.l, sizeV x = szN x := fun x hx => by
    have := szN_sub hx
    exact ih x (by omega) (by omega)
   rw [sizeV_eq]
   rw [szN_eq] at hv ⊢
   have h1 : W64 ((v.s.length : Int).tdiv 16) = ((v.s.length / 16 : Nat) : Int) := by
    show IntKind.i64.wrap _ = _
    have : (v.s.length : Int).tdiv 16 = ((v.s.length / 16 : Nat) : Int) := by
     rw [Int.tdiv_eq_ediv_of_nonneg (by omega)]; omega
    rw [this, i64_in (by omega) (by omega)]
   have h2 : W64 (1 + ((v.s.length / 16 : Nat) : Int)) = ((1 + v.s.length / 16 : Nat) : Int) := by
    show IntKind.i64.wrap _ = _
    rw [i64_in (by omega) (by omega)]; omega
   rw [h1, h2, sizeL_fit _ _ hv hsub]
 exact fun v h => main _ v (Nat.lt_succ_self _) h
end Ab.Vx
