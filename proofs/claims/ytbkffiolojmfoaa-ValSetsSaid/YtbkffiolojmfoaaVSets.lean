/-
  ValSets: for every input it returns true, and what it was handed reads as it did (lots of bytes, an order). No condition.
-/
import Derived.Test.YtbkffiolojmfoaaVArgs
import Derived.Test.YtbkffiolojmfoaaPack11
namespace Go.Proofs.Ytbkffiolojmfoaa
open Go Go.ChangeShapes Go.WideShapes Go.ChangeAt Go.RowKit Ab
set_option linter.unusedVariables false

theorem valSets_law (vs : List Ab.V) (h : TyArgs Try.prog [35, 5] vs) : ∃ h', lcall vE 104 vs [] = some (.d (.b true), h') := by
  cases h with | cons f0 d0 h0 r =>
  cases r with | cons f1 d1 h1 r =>
  cases r
  obtain ⟨x0, e0⟩ := arg35 h0
  obtain ⟨x1, e1⟩ := arg5 h1
  rw [e0, e1]
  exact sets_ok rfl vValOk x0 x1

set_option maxRecDepth 100000 in
theorem valSets_lifted (os : Os) (started : os.Started) (H : Type) (enc : TypeId × Value → H) :
    ReturnsInHanded {} Try.checked os 7 .any (Rows.valSetsSpec.pre6 enc Try.prog Try.f7 Rows.valSetsRow.domain false) (Rows.valSetsSpec.post enc Try.prog Try.f7 false true false false) := by
  refine returnsInHanded_of_change (C := Try.checked) own started (by kernel_rfl) Try.func7
    (ChangeSpec.witness6 (enc := enc) (C := Try.checked) false ⟨#[], #[.slice none 0 0, .int .u8 0], []⟩ 8 (by kernel_rfl) (by kernel_rfl) (by kernel_rfl) (by kernel_rfl)) ?_
  intro W base args ds gs before hval0 hW hcnd _
  have hval : ∀ (j : Nat) t v, Try.f7.params[j]? = some t → args[j]? = some v → Value.okWide Try.prog W .any base t v := hval0
  have hW' := hW
  obtain ⟨p, q, hA0, hV, rfl, hfz, hnd⟩ := hW
  have hA : DataW.TrodAll enc Try.prog W 0 (fun _ => true) true Try.f7.params.toList args.toList ds p := hA0
  rw [Try.params7] at hA
  refine (law_calls vTabOk vGood (fid := 7) (key := 104) rfl (ts := [35, 5]) (by decide) valSets_law hA (fun j t v h1 h2 => ⟨_, _, hval j t v (by rw [Try.params7]; simpa using h1) (by simpa using h2)⟩)).mono fun e W' ⟨he, hw⟩ => ?_
  subst he
  refine ⟨_, rfl, post_law rfl (by kernel_rfl) (tb := 4) Try.underlying4 laidOut (by rw [Try.params7]; decide +kernel) hW' ?_ hw⟩
  have hl := trod_len hA
  obtain ⟨rfl, rfl⟩ := trodVars_none hV
  match ds, hl with
  | [_, _], _ => exact ⟨rfl, rfl, rfl⟩

theorem valSets_holds : Rows.ValSetsSaid :=
  OpenClaim.holds_of_wide 7 Try.f7 rfl rfl rfl rfl rfl rfl rfl ⟨rfl, rfl, rfl, rfl, rfl⟩ rfl rfl rfl rfl rfl (by kernel_rfl) Try.func7 (by kernel_rfl)
    (of_decide_eq_true (by kernel_rfl)) (by unfold Func.isWrapper; first | (rw [if_pos (by decide +kernel)]; kernel_rfl) | (rw [if_neg (by decide +kernel)]; exact ⟨rfl, rfl⟩))
    (fun os started H enc _ => valSets_lifted os started H enc)
#print axioms valSets_holds
end Go.Proofs.Ytbkffiolojmfoaa
