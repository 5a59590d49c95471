/-
 CircForms: it returns true. No condition, nothing is handed in.
-/
import Derived.Test.YtdbjkmciidcanaaCircFormsTab
import Derived.Test.YtdbjkmciidcanaaCircFormsFacts
namespace Go.Proofs.Ytdbjkmciidcanaa
open Go Go.ChangeShapes Go.WideShapes Go.ChangeAt Go.RowKit Ab
set_option linter.unusedVariables false
theorem vGood : goodSet Try.prog [] = true := by kernel_rfl
theorem circForms_law (vs : List Ab.V) (h : TyArgs Try.prog [] vs) : ∃ h', lcall tF 164 vs [] = some (.d (.b true), h') := by
 cases h
 exact ⟨[], fo26⟩
set_option maxRecDepth 100000 in
theorem circForms_lifted (os : Os) (started : os.Started) (H : Type) (enc : TypeId × Value → H) :
  ReturnsInHanded {} Try.checked os 8 .any (Rows.circFormsSpec.pre6 enc Try.prog Try.f8 Rows.circFormsRow.domain false) (Rows.circFormsSpec.post enc Try.prog Try.f8 false true false false) := by
 refine returnsInHanded_of_change (C := Try.checked) own started (by kernel_rfl) Try.func8
  (ChangeSpec.witness6 (enc := enc) (C := Try.checked) false ⟨#[], #[], []⟩ 8 (by kernel_rfl) (by kernel_rfl) (by kernel_rfl) (by kernel_rfl)) ?_
 intro W base args ds gs before hval0 hW hcnd _
 have hval : ∀ (j : Nat) t v, Try.f8.params[j]? = some t → args[j]? = some v → Value.okWide Try.prog W .any base t v := hval0
 have hW' := hW
 obtain ⟨p, q, hA0, hV, rfl, hfz, hnd⟩ := hW
 have hA : DataW.TrodAll enc Try.prog W 0 (fun _ => true) true Try.f8.params.toList args.toList ds p := hA0
 rw [Try.params8] at hA
 refine (law_calls vTabOk vGood (fid := 8) (key := 164) rfl (ts := []) (by decide) circForms_law hA (fun j t v h1 h2 => by simp at h1)).mono fun e W' ⟨he, hw⟩ => ?_
 subst he
 refine ⟨_, rfl, post_law rfl (by kernel_rfl) (tb := 4) Try.underlying4 laidOut (by rw [Try.params8]; decide +kernel) hW' ?_ hw⟩
 have hl := trod_len hA
 obtain ⟨rfl, rfl⟩ := trodVars_none hV
 match ds, hl with
 | [], _ => exact ⟨rfl, rfl, rfl⟩
theorem circForms_holds : Rows.CircFormsSaid :=
 OpenClaim.holds_of_wide 8 Try.f8 rfl rfl rfl rfl rfl rfl rfl ⟨rfl, rfl, rfl, rfl, rfl⟩ rfl rfl rfl rfl rfl (by kernel_rfl) Try.func8 (by kernel_rfl)
  (of_decide_eq_true (by kernel_rfl)) (by unfold Func.isWrapper; first | (rw [if_pos (by decide +kernel)]; kernel_rfl) | (rw [if_neg (by decide +kernel)]; exact ⟨rfl, rfl⟩))
  (fun os started H enc _ => circForms_lifted os started H enc)
#print axioms circForms_holds
end Go.Proofs.Ytdbjkmciidcanaa
