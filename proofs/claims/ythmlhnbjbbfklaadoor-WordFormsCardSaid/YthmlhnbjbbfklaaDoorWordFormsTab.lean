/-
 WordForms: the table of the functions that are reached: each is what was compiled of it.
-/
import Derived.Test.YthmlhnbjbbfklaaDoorRows
import Derived.ProofKit
import Derived.Test.YthmlhnbjbbfklaaDoorPack3
import Derived.Test.YthmlhnbjbbfklaaDoorText0
import Derived.Test.YthmlhnbjbbfklaaDoorTrydQuo
namespace Go.Proofs.YthmlhnbjbbfklaaDoor
open Go Go.ChangeShapes Go.WideShapes Go.ChangeAt Go.RowKit Ab
set_option linter.unusedVariables false
set_option maxRecDepth 100000
noncomputable def r10447 : Round := mkRnd Tryd.f8 [0] [2, 3, 4]
noncomputable def vTab : Tab := { fns := [(4, 443), (7, 446), (8, 447), (9, 448), (10, 449), (11, 450), (12, 451), (13, 452), (14, 453), (15, 454), (16, 455), (17, 456), (18, 457), (19, 458), (20, 459), (21, 460), (22, 461), (23, 462), (24, 296), (25, 463), (26, 334)], rnds := [(10447, r10447)] }
theorem chk443 : compFn Tryd.prog vTab Tryd.f4 n443 = some (c443, []) := by kernel_rfl
theorem chk446 : compFn Tryd.prog vTab Tryd.f7 n446 = some (c446, []) := by kernel_rfl
theorem chk447 : compFn Tryd.prog vTab Tryd.f8 n447 = some (c447, [(10447, r10447.ps, r10447.assign, r10447.body, r10447.ks)]) := by kernel_rfl
theorem out447 : ∀ o ∈ ([(10447, r10447.ps, r10447.assign, r10447.body, r10447.ks)] : List (Nat × Array Nat × Code × Code × List Nat)), OutOk vTab Tryd.f8.ntmps o := by
 simp only [List.forall_mem_cons]
 exact ⟨out_ok (by kernel_rfl) (by kernel_rfl), fun o h => by cases h⟩
theorem chk448 : compFn Tryd.prog vTab Tryd.f9 n448 = some (c448, []) := by kernel_rfl
theorem chk449 : compFn Tryd.prog vTab Tryd.f10 n449 = some (c449, []) := by kernel_rfl
theorem chk450 : compFn Tryd.prog vTab Tryd.f11 n450 = some (c450, []) := by kernel_rfl
theorem chk451 : compFn Tryd.prog vTab Tryd.f12 n451 = some (c451, []) := by kernel_rfl
theorem chk452 : compFn Tryd.prog vTab Tryd.f13 n452 = some (c452, []) := by kernel_rfl
theorem chk453 : compFn Tryd.prog vTab Tryd.f14 n453 = some (c453, []) := by kernel_rfl
theorem chk454 : compFn Tryd.prog vTab Tryd.f15 n454 = some (c454, []) := by kernel_rfl
theorem chk455 : compFn Tryd.prog vTab Tryd.f16 n455 = some (c455, []) := by kernel_rfl
theorem chk456 : compFn Tryd.prog vTab Tryd.f17 n456 = some (c456, []) := by kernel_rfl
theorem chk457 : compFn Tryd.prog vTab Tryd.f18 n457 = some (c457, []) := by kernel_rfl
theorem chk458 : compFn Tryd.prog vTab Tryd.f19 n458 = some (c458, []) := by kernel_rfl
theorem chk459 : compFn Tryd.prog vTab Tryd.f20 n459 = some (c459, []) := by kernel_rfl
theorem chk460 : compFn Tryd.prog vTab Tryd.f21 n460 = some (c460, []) := by kernel_rfl
theorem chk461 : compFn Tryd.prog vTab Tryd.f22 n461 = some (c461, []) := by kernel_rfl
theorem chk462 : compFn Tryd.prog vTab Tryd.f23 n462 = some (c462, []) := by kernel_rfl
theorem chk10447 : compRnd Tryd.prog vTab r10447 n10447 = some (a10447, b10447, []) := by kernel_rfl
theorem out10447 : ∀ o ∈ ([] : List (Nat × Array Nat × Code × Code × List Nat)), OutOk vTab r10447.nt o := fun o h => by cases h
theorem vBody : ∀ p ∈ vTab.fns, ∀ args w, (callFunc p.1 args).run Tryd.prog w = .ok (.enter p.1 args) w := by
 simp only [vTab, List.forall_mem_cons]
 exact ⟨Tryd.call4, Tryd.call7, Tryd.call8, Tryd.call9, Tryd.call10, Tryd.call11, Tryd.call12, Tryd.call13, Tryd.call14, Tryd.call15, Tryd.call16, Tryd.call17, Tryd.call18, Tryd.call19, Tryd.call20, Tryd.call21, Tryd.call22, Tryd.call23, Tryd.call24, Tryd.call25, Tryd.call26, by simp⟩
theorem vCode : ∀ p ∈ vTab.fns, CodeAt Tryd.prog vTab tF p := by
 simp only [vTab, List.forall_mem_cons]
 exact ⟨code_at0 (by kernel_rfl) Tryd.func4 chk443, code_at0 (by kernel_rfl) Tryd.func7 chk446, code_at (by kernel_rfl) Tryd.func8 chk447 out447, code_at0 (by kernel_rfl) Tryd.func9 chk448, code_at0 (by kernel_rfl) Tryd.func10 chk449, code_at0 (by kernel_rfl) Tryd.func11 chk450, code_at0 (by kernel_rfl) Tryd.func12 chk451, code_at0 (by kernel_rfl) Tryd.func13 chk452, code_at0 (by kernel_rfl) Tryd.func14 chk453, code_at0 (by kernel_rfl) Tryd.func15 chk454, code_at0 (by kernel_rfl) Tryd.func16 chk455, code_at0 (by kernel_rfl) Tryd.func17 chk456, code_at0 (by kernel_rfl) Tryd.func18 chk457, code_at0 (by kernel_rfl) Tryd.func19 chk458, code_at0 (by kernel_rfl) Tryd.func20 chk459, code_at0 (by kernel_rfl) Tryd.func21 chk460, code_at0 (by kernel_rfl) Tryd.func22 chk461, code_at0 (by kernel_rfl) Tryd.func23 chk462, prim_at (by kernel_rfl) (parse_ok pPar), prim_at (by kernel_rfl) (pQuo), prim_at (by kernel_rfl) (idxb_ok pIdx), fun p h => by cases h⟩
theorem vRnd : ∀ p ∈ vTab.rnds, RndAt Tryd.prog vTab tF p := by
 simp only [vTab, List.forall_mem_cons]
 exact ⟨rnd_at (ps := [12, 13]) (ks := [2, 3, 4]) (by kernel_rfl) (by kernel_rfl) (by kernel_rfl) (by kernel_rfl) (by kernel_rfl) chk10447 out10447, fun p h => by cases h⟩
theorem vTabOk : TabOk Tryd.prog vTab tF := tab_ok vBody (by kernel_rfl) vCode vRnd
theorem trod_len {H : Type} {P : Program} {enc : TypeId × Value → H} {W : World} {sp : Nat → Bool} : ∀ {ts : List TypeId} {vs : List Value} {ds : List (DataW H)} {ps : List MemPlace}, DataW.TrodAll enc P W 0 sp true ts vs ds ps → ds.length = ts.length
 | [], [], [], ps, _ => rfl
 | t :: ts, v :: vs, d :: ds, ps, ⟨p, q, h1, h2, e⟩ => by simp [trod_len h2]
 | [], [], _ :: _, _, h => h.elim
 | [], _ :: _, _, _, h => h.elim
 | _ :: _, [], _, _, h => h.elim
 | _ :: _, _ :: _, [], _, h => h.elim
theorem own : ownKnob Tryd.prog.godebug = none := by kernel_rfl
theorem laidOut : laidOutB Tryd.prog = true := by kernel_rfl
end Go.Proofs.YthmlhnbjbbfklaaDoor
