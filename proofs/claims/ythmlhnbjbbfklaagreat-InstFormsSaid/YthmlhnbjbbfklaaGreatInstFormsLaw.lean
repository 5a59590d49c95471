/-
 InstForms: it returns true. No condition, nothing is handed in.
-/
import Derived.Test.YthmlhnbjbbfklaaGreatInstFormsTab
import Derived.Test.YthmlhnbjbbfklaaGreatInstFormsFacts
namespace Go.Proofs.YthmlhnbjbbfklaaGreat
open Go Go.ChangeShapes Go.WideShapes Go.ChangeAt Go.RowKit Ab
set_option linter.unusedVariables false
theorem vGood : goodSet Tryz.prog [] = true := by kernel_rfl
theorem instForms_law (vs : List Ab.V) (h : TyArgs Tryz.prog [] vs) : ∃ h', lcall tF 366 vs [] = some (.d (.b true), h') := by
 cases h
 exact ⟨[], fo40⟩
set_option maxRecDepth 100000 in
theorem instForms_lifted (os : Os) (started : os.Started) (H : Type) (enc : TypeId × Value → H) :
  ReturnsInHanded {} Tryz.checked os 5 .any (Rows.instFormsSpec.pre6 enc Tryz.prog Tryz.f5 Rows.instFormsRow.domain false) (Rows.instFormsSpec.post enc Tryz.prog Tryz.f5 false true false false) := by
 refine returnsInHanded_of_change (C := Tryz.checked) own started (by kernel_rfl) Tryz.func5
  (ChangeSpec.witness6 (enc := enc) (C := Tryz.checked) false ⟨#[], #[], []⟩ 8 (by kernel_rfl) (by kernel_rfl) (by kernel_rfl) (by kernel_rfl)) ?_
 intro W base args ds gs before hval0 hW hcnd _
 have hval : ∀ (j : Nat) t v, Tryz.f5.params[j]? = some t → args[j]? = some v → Value.okWide Tryz.prog W .any base t v := hval0
 have hW' := hW
 obtain ⟨p, q, hA0, hV, rfl, hfz, hnd⟩ := hW
 have hA : DataW.TrodAll enc Tryz.prog W 0 (fun _ => true) true Tryz.f5.params.toList args.toList ds p := hA0
 rw [Tryz.params5] at hA
 refine (law_calls vTabOk vGood (fid := 5) (key := 366) rfl (ts := []) (by decide) instForms_law hA (fun j t v h1 h2 => by simp at h1)).mono fun e W' ⟨he, hw⟩ => ?_
 subst he
 refine ⟨_, rfl, post_law rfl (by kernel_rfl) (tb := 4) Tryz.underlying4 laidOut (by rw [Tryz.params5]; decide +kernel) hW' ?_ hw⟩
 have hl := trod_len hA
 obtain ⟨rfl, rfl⟩ := trodVars_none hV
 match ds, hl with
 | [], _ => exact ⟨rfl, rfl, rfl⟩
theorem instForms_holds : Rows.InstFormsSaid :=
 OpenClaim.holds_of_wide 5 Tryz.f5 rfl rfl rfl rfl rfl rfl rfl ⟨rfl, rfl, rfl, rfl, rfl⟩ rfl rfl rfl rfl rfl (by kernel_rfl) Tryz.func5 (by kernel_rfl)
  (of_decide_eq_true (by kernel_rfl)) (by unfold Func.isWrapper; first | (rw [if_pos (by decide +kernel)]; kernel_rfl) | (rw [if_neg (by decide +kernel)]; exact ⟨rfl, rfl⟩))
  (fun os started H enc _ => instForms_lifted os started H enc)
#print axioms instForms_holds
end Go.Proofs.YthmlhnbjbbfklaaGreat
