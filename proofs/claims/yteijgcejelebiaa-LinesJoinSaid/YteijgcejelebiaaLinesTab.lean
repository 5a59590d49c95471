/-
  Lines: the table of the functions that are reached: each is what was compiled of it.
-/
import Derived.Test.YteijgcejelebiaaRows
import Derived.ProofKit
import Derived.Test.YteijgcejelebiaaPack3
import Derived.Test.YteijgcejelebiaaLinesCode
namespace Go.Proofs.Yteijgcejelebiaa
open Go Go.ChangeShapes Go.WideShapes Go.ChangeAt Go.RowKit Ab
set_option linter.unusedVariables false
set_option maxRecDepth 100000

noncomputable def r10246 : Round := mkRnd Try.f7 [0] [3]
noncomputable def r10253 : Round := mkRnd Try.f14 [0] [0, 1, 2]
noncomputable def vTab : Tab := { fns := [(3, 242), (4, 243), (5, 244), (6, 245), (7, 246), (8, 247), (9, 248), (10, 249), (11, 250), (12, 251), (13, 252), (14, 253), (15, 254)], rnds := [(10246, r10246), (10253, r10253)] }

theorem chk242 : compFn Try.prog vTab Try.f3 n242 = some (c242, []) := by kernel_rfl
theorem chk243 : compFn Try.prog vTab Try.f4 n243 = some (c243, []) := by kernel_rfl
theorem chk244 : compFn Try.prog vTab Try.f5 n244 = some (c244, []) := by kernel_rfl
theorem chk245 : compFn Try.prog vTab Try.f6 n245 = some (c245, []) := by kernel_rfl
theorem chk246 : compFn Try.prog vTab Try.f7 n246 = some (c246, [(10246, r10246.ps, r10246.assign, r10246.body, r10246.ks)]) := by kernel_rfl
theorem out246 : ∀ o ∈ ([(10246, r10246.ps, r10246.assign, r10246.body, r10246.ks)] : List (Nat × Array Nat × Code × Code × List Nat)), OutOk vTab Try.f7.ntmps o := by
  simp only [List.forall_mem_cons]
  exact ⟨out_ok (by kernel_rfl) (by kernel_rfl), fun o h => by cases h⟩
theorem chk247 : compFn Try.prog vTab Try.f8 n247 = some (c247, []) := by kernel_rfl
theorem chk248 : compFn Try.prog vTab Try.f9 n248 = some (c248, []) := by kernel_rfl
theorem chk249 : compFn Try.prog vTab Try.f10 n249 = some (c249, []) := by kernel_rfl
theorem chk250 : compFn Try.prog vTab Try.f11 n250 = some (c250, []) := by kernel_rfl
theorem chk251 : compFn Try.prog vTab Try.f12 n251 = some (c251, []) := by kernel_rfl
theorem chk252 : compFn Try.prog vTab Try.f13 n252 = some (c252, []) := by kernel_rfl
theorem chk253 : compFn Try.prog vTab Try.f14 n253 = some (c253, [(10253, r10253.ps, r10253.assign, r10253.body, r10253.ks)]) := by kernel_rfl
theorem out253 : ∀ o ∈ ([(10253, r10253.ps, r10253.assign, r10253.body, r10253.ks)] : List (Nat × Array Nat × Code × Code × List Nat)), OutOk vTab Try.f14.ntmps o := by
  simp only [List.forall_mem_cons]
  exact ⟨out_ok (by kernel_rfl) (by kernel_rfl), fun o h => by cases h⟩
theorem chk254 : compFn Try.prog vTab Try.f15 n254 = some (c254, []) := by kernel_rfl
theorem chk10246 : compRnd Try.prog vTab r10246 n10246 = some (a10246, b10246, []) := by kernel_rfl
theorem out10246 : ∀ o ∈ ([] : List (Nat × Array Nat × Code × Code × List Nat)), OutOk vTab r10246.nt o := fun o h => by cases h
theorem chk10253 : compRnd Try.prog vTab r10253 n10253 = some (a10253, b10253, []) := by kernel_rfl
theorem out10253 : ∀ o ∈ ([] : List (Nat × Array Nat × Code × Code × List Nat)), OutOk vTab r10253.nt o := fun o h => by cases h
theorem vBody : ∀ p ∈ vTab.fns, ∀ args w, (callFunc p.1 args).run Try.prog w = .ok (.enter p.1 args) w := by
  simp only [vTab, List.forall_mem_cons]
  exact ⟨Try.call3, Try.call4, Try.call5, Try.call6, Try.call7, Try.call8, Try.call9, Try.call10, Try.call11, Try.call12, Try.call13, Try.call14, Try.call15, by simp⟩

theorem vCode : ∀ p ∈ vTab.fns, CodeAt Try.prog vTab tF p := by
  simp only [vTab, List.forall_mem_cons]
  exact ⟨code_at0 (by kernel_rfl) Try.func3 chk242, code_at0 (by kernel_rfl) Try.func4 chk243, code_at0 (by kernel_rfl) Try.func5 chk244, code_at0 (by kernel_rfl) Try.func6 chk245, code_at (by kernel_rfl) Try.func7 chk246 out246, code_at0 (by kernel_rfl) Try.func8 chk247, code_at0 (by kernel_rfl) Try.func9 chk248, code_at0 (by kernel_rfl) Try.func10 chk249, code_at0 (by kernel_rfl) Try.func11 chk250, code_at0 (by kernel_rfl) Try.func12 chk251, code_at0 (by kernel_rfl) Try.func13 chk252, code_at (by kernel_rfl) Try.func14 chk253 out253, code_at0 (by kernel_rfl) Try.func15 chk254, fun p h => by cases h⟩

theorem vRnd : ∀ p ∈ vTab.rnds, RndAt Try.prog vTab tF p := by
  simp only [vTab, List.forall_mem_cons]
  exact ⟨rnd_at (ps := [8]) (ks := [3]) (by kernel_rfl) (by kernel_rfl) (by kernel_rfl) (by kernel_rfl) (by kernel_rfl) chk10246 out10246, rnd_at (ps := [7]) (ks := [0, 1, 2]) (by kernel_rfl) (by kernel_rfl) (by kernel_rfl) (by kernel_rfl) (by kernel_rfl) chk10253 out10253, fun p h => by cases h⟩

theorem vTabOk : TabOk Try.prog vTab tF := tab_ok vBody (by kernel_rfl) vCode vRnd

theorem trod_len {H : Type} {P : Program} {enc : TypeId × Value → H} {W : World} {sp : Nat → Bool} : ∀ {ts : List TypeId} {vs : List Value} {ds : List (DataW H)} {ps : List MemPlace}, DataW.TrodAll enc P W 0 sp true ts vs ds ps → ds.length = ts.length
  | [], [], [], ps, _ => rfl
  | t :: ts, v :: vs, d :: ds, ps, ⟨p, q, h1, h2, e⟩ => by simp [trod_len h2]
  | [], [], _ :: _, _, h => h.elim
  | [], _ :: _, _, _, h => h.elim
  | _ :: _, [], _, _, h => h.elim
  | _ :: _, _ :: _, [], _, h => h.elim
theorem own : ownKnob Try.prog.godebug = none := by kernel_rfl
theorem laidOut : laidOutB Try.prog = true := by kernel_rfl

end Go.Proofs.Yteijgcejelebiaa
