/-
 LocalGoes: for every input it returns true, and what it was handed reads as it did. No condition.
-/
import Derived.Test.YtdbjkmciidcanaaLocalGoesTab
import Derived.Test.YtdbjkmciidcanaaGD
import Derived.Test.YtdbjkmciidcanaaPack5
namespace Go.Proofs.Ytdbjkmciidcanaa
open Go Go.ChangeShapes Go.WideShapes Go.ChangeAt Go.RowKit Ab
set_option linter.unusedVariables false
set_option maxRecDepth 100000
theorem localGoesGood : goodSet Try.prog [5, 22] = true := by kernel_rfl
theorem localGoes_law (vs : List Ab.V) (h : TyArgs Try.prog [22] vs) : ∃ h', lcall tF 161 vs [] = some (.d (.b true), h') := by
 cases h with | cons f0 d0 h0 r =>
 cases r
 obtain ⟨x0, rfl⟩ := ty_bytes Try.underlying22 Try.underlying5 (by kernel_rfl) h0
 refine ⟨[], ?_⟩
 show lcall tF 161 [V.d (.l 1 (byteRow x0))] [] = _
 exact localGoes_ok x0
set_option maxRecDepth 100000 in
theorem localGoes_lifted (os : Os) (started : os.Started) (H : Type) (enc : TypeId × Value → H) :
  ReturnsInHanded {} Try.checked os 5 .any (Rows.localGoesSpec.pre6 enc Try.prog Try.f5 Rows.localGoesRow.domain false) (Rows.localGoesSpec.post enc Try.prog Try.f5 false true false false) := by
 refine returnsInHanded_of_change (C := Try.checked) own started (by kernel_rfl) Try.func5
  (ChangeSpec.witness6 (enc := enc) (C := Try.checked) false ⟨#[], #[.slice none 0 0], []⟩ 8 (by kernel_rfl) (by kernel_rfl) (by kernel_rfl) (by kernel_rfl)) ?_
 intro W base args ds gs before hval0 hW hcnd _
 have hval : ∀ (j : Nat) t v, Try.f5.params[j]? = some t → args[j]? = some v → Value.okWide Try.prog W .any base t v := hval0
 have hW' := hW
 obtain ⟨p, q, hA0, hV, rfl, hfz, hnd⟩ := hW
 have hA : DataW.TrodAll enc Try.prog W 0 (fun _ => true) true Try.f5.params.toList args.toList ds p := hA0
 rw [Try.params5] at hA
 refine (law_calls vTabOk localGoesGood (fid := 5) (key := 161) (by kernel_rfl) (ts := [22]) (by decide) localGoes_law hA (fun j t v h1 h2 => ⟨_, _, hval j t v (by rw [Try.params5]; simpa using h1) (by simpa using h2)⟩)).mono fun e W' ⟨he, hw⟩ => ?_
 subst he
 refine ⟨_, rfl, post_law rfl (by kernel_rfl) (tb := 4) Try.underlying4 laidOut (by rw [Try.params5]; decide +kernel) hW' ?_ hw⟩
 have hl := trod_len hA
 obtain ⟨rfl, rfl⟩ := trodVars_none hV
 match ds, hl with
 | [_], _ => exact ⟨rfl, rfl, rfl⟩
theorem localGoes_holds : Rows.LocalGoesSaid :=
 OpenClaim.holds_of_wide 5 Try.f5 rfl rfl rfl rfl rfl rfl rfl ⟨rfl, rfl, rfl, rfl, rfl⟩ rfl rfl rfl rfl rfl (by kernel_rfl) Try.func5 (by kernel_rfl)
  (of_decide_eq_true (by kernel_rfl)) (by unfold Func.isWrapper; first | (rw [if_pos (by decide +kernel)]; kernel_rfl) | (rw [if_neg (by decide +kernel)]; exact ⟨rfl, rfl⟩))
  (fun os started H enc _ => localGoes_lifted os started H enc)
#print axioms localGoes_holds
end Go.Proofs.Ytdbjkmciidcanaa
