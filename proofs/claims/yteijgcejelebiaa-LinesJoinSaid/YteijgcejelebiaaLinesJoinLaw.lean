/-
  LinesJoin: for every input it returns true, and what it was handed reads as it did. No condition.
-/
import Derived.Test.YteijgcejelebiaaLinesTab
import Derived.Test.YteijgcejelebiaaL6
import Derived.Test.YteijgcejelebiaaPack5
import Derived.Test.YteijgcejelebiaaLinesBegun
namespace Go.Proofs.Yteijgcejelebiaa
open Go Go.ChangeShapes Go.WideShapes Go.ChangeAt Go.RowKit Ab
set_option linter.unusedVariables false

theorem linesJoinGood : goodSet Try.prog [9] = true := by kernel_rfl
theorem linesJoin_law (vs : List Ab.V) (h : TyArgs Try.prog [9, 9] vs) : ∃ h', lcall tF 244 vs [] = some (.d (.b true), h') := by
  cases h with | cons f0 d0 h0 r =>
  cases r with | cons f1 d1 h1 r =>
  cases r
  obtain ⟨x0, rfl⟩ := ty_str Try.underlying9 h0
  obtain ⟨x1, rfl⟩ := ty_str Try.underlying9 h1
  refine ⟨[], ?_⟩
  show lcall tF 244 [V.d (.s x0), V.d (.s x1)] [] = _
  exact linesJoin_ok linesBegun x0 x1

set_option maxRecDepth 100000 in
theorem linesJoin_lifted (os : Os) (started : os.Started) (H : Type) (enc : TypeId × Value → H) :
    ReturnsInHanded {} Try.checked os 5 .any (Rows.linesJoinSpec.pre6 enc Try.prog Try.f5 Rows.linesJoinRow.domain false) (Rows.linesJoinSpec.post enc Try.prog Try.f5 false true false false) := by
  refine returnsInHanded_of_change (C := Try.checked) own started (by kernel_rfl) Try.func5
    (ChangeSpec.witness6 (enc := enc) (C := Try.checked) false ⟨#[], #[.string ⟨#[]⟩, .string ⟨#[]⟩], []⟩ 8 (by kernel_rfl) (by kernel_rfl) (by kernel_rfl) (by kernel_rfl)) ?_
  intro W base args ds gs before hval0 hW hcnd _
  have hval : ∀ (j : Nat) t v, Try.f5.params[j]? = some t → args[j]? = some v → Value.okWide Try.prog W .any base t v := hval0
  have hW' := hW
  obtain ⟨p, q, hA0, hV, rfl, hfz, hnd⟩ := hW
  have hA : DataW.TrodAll enc Try.prog W 0 (fun _ => true) true Try.f5.params.toList args.toList ds p := hA0
  rw [Try.params5] at hA
  refine (law_calls vTabOk linesJoinGood (fid := 5) (key := 244) (by kernel_rfl) (ts := [9, 9]) (by decide) linesJoin_law hA (fun j t v h1 h2 => ⟨_, _, hval j t v (by rw [Try.params5]; simpa using h1) (by simpa using h2)⟩)).mono fun e W' ⟨he, hw⟩ => ?_
  subst he
  refine ⟨_, rfl, post_law rfl (by kernel_rfl) (tb := 4) Try.underlying4 laidOut (by rw [Try.params5]; decide +kernel) hW' ?_ hw⟩
  have hl := trod_len hA
  obtain ⟨rfl, rfl⟩ := trodVars_none hV
  match ds, hl with
  | [_, _], _ => exact ⟨rfl, rfl, rfl⟩

theorem linesJoin_holds : Rows.LinesJoinSaid :=
  OpenClaim.holds_of_wide 5 Try.f5 rfl rfl rfl rfl rfl rfl rfl ⟨rfl, rfl, rfl, rfl, rfl⟩ rfl rfl rfl rfl rfl (by kernel_rfl) Try.func5 (by kernel_rfl)
    (of_decide_eq_true (by kernel_rfl)) (by unfold Func.isWrapper; first | (rw [if_pos (by decide +kernel)]; kernel_rfl) | (rw [if_neg (by decide +kernel)]; exact ⟨rfl, rfl⟩))
    (fun os started H enc _ => linesJoin_lifted os started H enc)
#print axioms linesJoin_holds
end Go.Proofs.Yteijgcejelebiaa
