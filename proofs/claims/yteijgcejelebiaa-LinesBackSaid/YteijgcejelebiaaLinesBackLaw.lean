/-
  LinesBack: for every input it returns true, and what it was handed reads as it did. No condition.
-/
import Derived.Test.YteijgcejelebiaaLinesTab
import Derived.Test.YteijgcejelebiaaL5
import Derived.Test.YteijgcejelebiaaPack5
import Derived.Test.YteijgcejelebiaaLinesBegun
namespace Go.Proofs.Yteijgcejelebiaa
open Go Go.ChangeShapes Go.WideShapes Go.ChangeAt Go.RowKit Ab
set_option linter.unusedVariables false

theorem linesBackGood : goodSet Try.prog [5, 9] = true := by kernel_rfl
theorem linesBack_law (vs : List Ab.V) (h : TyArgs Try.prog [9, 5] vs) : ∃ h', lcall tF 242 vs [] = some (.d (.b true), h') := by
  cases h with | cons f0 d0 h0 r =>
  cases r with | cons f1 d1 h1 r =>
  cases r
  obtain ⟨x0, rfl⟩ := ty_str Try.underlying9 h0
  obtain ⟨x1, rfl⟩ := ty_u8 Try.underlying5 h1
  refine ⟨[], ?_⟩
  show lcall tF 242 [V.d (.s x0), V.d (.i .u8 x1.toNat)] [] = _
  exact linesBack_ok linesBegun x0 x1

set_option maxRecDepth 100000 in
theorem linesBack_lifted (os : Os) (started : os.Started) (H : Type) (enc : TypeId × Value → H) :
    ReturnsInHanded {} Try.checked os 3 .any (Rows.linesBackSpec.pre6 enc Try.prog Try.f3 Rows.linesBackRow.domain false) (Rows.linesBackSpec.post enc Try.prog Try.f3 false true false false) := by
  refine returnsInHanded_of_change (C := Try.checked) own started (by kernel_rfl) Try.func3
    (ChangeSpec.witness6 (enc := enc) (C := Try.checked) false ⟨#[], #[.string ⟨#[]⟩, .int .u8 0], []⟩ 8 (by kernel_rfl) (by kernel_rfl) (by kernel_rfl) (by kernel_rfl)) ?_
  intro W base args ds gs before hval0 hW hcnd _
  have hval : ∀ (j : Nat) t v, Try.f3.params[j]? = some t → args[j]? = some v → Value.okWide Try.prog W .any base t v := hval0
  have hW' := hW
  obtain ⟨p, q, hA0, hV, rfl, hfz, hnd⟩ := hW
  have hA : DataW.TrodAll enc Try.prog W 0 (fun _ => true) true Try.f3.params.toList args.toList ds p := hA0
  rw [Try.params3] at hA
  refine (law_calls vTabOk linesBackGood (fid := 3) (key := 242) (by kernel_rfl) (ts := [9, 5]) (by decide) linesBack_law hA (fun j t v h1 h2 => ⟨_, _, hval j t v (by rw [Try.params3]; simpa using h1) (by simpa using h2)⟩)).mono fun e W' ⟨he, hw⟩ => ?_
  subst he
  refine ⟨_, rfl, post_law rfl (by kernel_rfl) (tb := 4) Try.underlying4 laidOut (by rw [Try.params3]; decide +kernel) hW' ?_ hw⟩
  have hl := trod_len hA
  obtain ⟨rfl, rfl⟩ := trodVars_none hV
  match ds, hl with
  | [_, _], _ => exact ⟨rfl, rfl, rfl⟩

theorem linesBack_holds : Rows.LinesBackSaid :=
  OpenClaim.holds_of_wide 3 Try.f3 rfl rfl rfl rfl rfl rfl rfl ⟨rfl, rfl, rfl, rfl, rfl⟩ rfl rfl rfl rfl rfl (by kernel_rfl) Try.func3 (by kernel_rfl)
    (of_decide_eq_true (by kernel_rfl)) (by unfold Func.isWrapper; first | (rw [if_pos (by decide +kernel)]; kernel_rfl) | (rw [if_neg (by decide +kernel)]; exact ⟨rfl, rfl⟩))
    (fun os started H enc _ => linesBack_lifted os started H enc)
#print axioms linesBack_holds
end Go.Proofs.Yteijgcejelebiaa
