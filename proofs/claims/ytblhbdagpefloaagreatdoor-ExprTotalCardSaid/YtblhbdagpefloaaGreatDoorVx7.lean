/-
 Values that choices make.
-/
import Derived.Test.YtblhbdagpefloaaGreatDoorVx6
namespace Ab.Vx
open Go
set_option linter.unusedVariables false
set_option linter.unusedSimpArgs false
set_option maxRecDepth 100000
variable {E : Nat → Option Fn}
def GenC (E : Nat → Option Fn) (l : List UInt8) (deep : Nat) : Prop := ∀ (n : Nat), n ≤ l.length →
 ∃ v n', lcall E 109 [.ptr 0 0, .d (.i .i64 deep)] [pbox l n] = some (v.arg, [pbox l n']) ∧ n' ≤ l.length ∧ GenOk (bnd deep) v
def SomeC (E : Nat → Option Fn) (l : List UInt8) (m : Nat) (deep : Int) : Prop := ∀ (n : Nat), n ≤ l.length →
 ∃ vs n', lcall E 124 [.ptr 0 0, .d (.i .i64 deep)] [pbox l n] = some (.d (.l 4 (gvalRows vs)), [pbox l n']) ∧ n' ≤ l.length ∧ vs.length ≤ 3 ∧ ∀ x ∈ vs, GenOk m x
def NumC (E : Nat → Option Fn) (l : List UInt8) : Prop := ∀ (n : Nat), n ≤ l.length → ∀ (m : Int), 0 < m →
  ∃ (k : Int) (n' : Nat), lcall E 123 [.ptr 0 0, .d (.i .i64 m)] [pbox l n] = some (.d (.i .i64 k), [pbox l n']) ∧ 0 ≤ k ∧ k < m ∧ n' ≤ l.length
def someLoop : CCode := match c124.body with
 | .seq _ (.seq _ (.seq (.seq _ (.block _ (.loop _ c))) _)) => c
 | _ => .skip
theorem some_loop {l : List UInt8} {deep : Nat} (hg : GenC E l deep) {w : Int} (hw : IntKind.i64.wrap (w - 1) = deep) {Q : Ex → St → Prop}
  (hx : ∀ tm vs n, look tm 5 = .own 5 0 4 (gvalRows vs) → n ≤ l.length → vs.length ≤ 3 → (∀ x ∈ vs, GenOk (bnd deep) x) → Q (.exit 0) ⟨tm, [pbox l n, none, none, none, none, some (.tok 0 4)]⟩) :
  ∀ (i : Nat) (vs : List GVal) (n : Nat), i + vs.length ≤ 3 → n ≤ l.length → (∀ x ∈ vs, GenOk (bnd deep) x) → LX E someLoop ⟨[0, 1, 5, 6], [5], [], [], [], true⟩ 6 ⟨[(0, .ptr 0 0), (1, .d (.i .i64 w)), (5, .own 5 0 4 (gvalRows vs)), (6, .d (.i .i64 i))], [pbox l n, none, none, none, none, some (.tok 0 4)]⟩ Q := by
 intro i
 induction i with
 | zero =>
  intro vs n hi hn hv
  refine lx_step (wx_seq (wx_seq ?_))
  have h0 : ¬ ((0 : Int) < ((0 : Nat) : Int)) := by omega
  refine wx_region fun K hK => ?_
  simp only [evW, evX, evM, evN, ↓reduceIte, Nat.reduceEqDiff, Nat.reduceAdd, reduceCtorEq, h0]
  refine hK _ _ ?_; clear hK K
  refine wx_cond false rfl (fun h => by cases h) (fun _ => wx_exit ?_)
  exact hx _ vs n rfl hn (by omega) hv
 | succ i ih =>
  intro vs n hi hn hv
  obtain ⟨v, n1, hc, hn1, hok⟩ := hg n hn
  have h0 : (0 : Int) < ((i + 1 : Nat) : Int) := by omega
  have w1 : IntKind.i64.wrap (((i + 1 : Nat) : Int) - 1) = (i : Int) := by rw [i64_in (by omega) (by omega)]; omega
  have r1 : roomy (vs.length + 1) 56 = true := roomy_in (by omega)
  refine lx_step (wx_seq (wx_seq ?_))
  refine wx_region fun K hK => ?_
  simp only [evW, evX, evM, evN, ↓reduceIte, Nat.reduceEqDiff, Nat.reduceAdd, reduceCtorEq, h0]
  refine hK _ _ ?_; clear hK K
  refine wx_cond true rfl (fun _ => wx_skip ?_) (fun h => by cases h)
  refine wx_seq (wx_block ?_)
  refine wx_region fun K hK => ?_
  simp only [evW, evX, evM, evN, evC, far, ↓reduceIte, Nat.reduceEqDiff, Nat.reduceAdd, Nat.reduceLeDiff, Nat.reduceLT, reduceCtorEq, hw, hc, gvalRows_length, r1]
  refine hK _ _ ?_; clear hK K
  have hrow : gvalRows vs ++ [[.i .i64 v.kind, .i .i64 v.i, .s v.s, .l 4 (gvalRows v.l)]] = gvalRows (vs ++ [v]) := by simp [gvalRows_eq, row_eq]
  refine wx_region fun K hK => ?_
  simp only [evW, evX, evM, evN, ↓reduceIte, Nat.reduceEqDiff, Nat.reduceAdd, reduceCtorEq, w1, hrow]
  refine hK _ _ ?_; clear hK K
  refine ⟨_, ?_, ih (vs ++ [v]) n1 (by simp; omega) hn1 (fun x hx => ?_)⟩
  ·simp only [evH, evX, evN, ↓reduceIte, Nat.reduceEqDiff, Nat.reduceLT, reduceCtorEq]
  ·rcases List.mem_append.1 hx with h | h
   ·exact hv x h
   ·simp only [List.mem_singleton] at h; subst h; exact hok
theorem some_ok (h124 : E 124 = some (.code c124)) {l : List UInt8} (hnum : NumC E l) {deep : Nat} (hd : deep ≤ 100) (hg : GenC E l deep) : SomeC E l (bnd deep) ((deep + 1 : Nat) : Int) := by
 intro n hn
 obtain ⟨k, n1, hc, k0, k1, hn1⟩ := hnum n hn 4 (by omega)
 obtain ⟨i, rfl⟩ : ∃ i : Nat, k = i := ⟨k.toNat, by omega⟩
 have hw : IntKind.i64.wrap (((deep + 1 : Nat) : Int) - 1) = deep := by rw [i64_in (by omega) (by omega)]; omega
 have : ∃ r, lcall E 124 [.ptr 0 0, .d (.i .i64 ((deep + 1 : Nat) : Int))] [pbox l n] = some r ∧ ∃ vs n', r = (.d (.l 4 (gvalRows vs)), [pbox l n']) ∧ n' ≤ l.length ∧ vs.length ≤ 3 ∧ ∀ x ∈ vs, GenOk (bnd deep) x := by
  refine call_wxP h124 ?_
  refine wx_seq (wx_region fun K hK => ?_)
  simp only [evW, evX, evM, evN, Nat.reduceAdd]
  refine hK _ _ ?_; clear hK K
  refine wx_seq (wx_region fun K hK => ?_)
  simp only [evW, evX, evM, evN]
  refine hK _ _ ?_; clear hK K
  refine wx_seq (wx_seq ?_)
  refine wx_region fun K hK => ?_
  simp only [evW, evX, evM, evN, evC, far, ↓reduceIte, Nat.reduceAdd, Nat.reduceLeDiff, Nat.reduceLT, reduceCtorEq, hc]
  refine hK _ _ ?_; clear hK K
  refine wx_block (wx_loop ?_)
  simp only [evH, evX, evN, ↓reduceIte, Nat.reduceEqDiff, Nat.reduceAdd, reduceCtorEq]
  refine some_loop hg hw (fun tm vs n2 t5 hn2 hlen hv => ?_) i [] n1 (by simp; omega) hn1 (by simp)
  refine wx_seq (wx_region fun K hK => ?_)
  simp only [evW, evX, evM, evN, ↓reduceIte, Nat.reduceAdd, t5]
  refine hK _ _ ?_; clear hK K
  refine wx_ret ⟨.inr rfl, _, ?_, vs, n2, rfl, hn2, hlen, hv⟩
  simp only [evR, evX, evC, evN, ↓reduceIte, far, c124]
 obtain ⟨r, h1, vs, n', rfl, h2⟩ := this
 exact ⟨vs, n', h1, h2⟩
end Ab.Vx
