/-
  LocalForms: it returns true. No condition, nothing is handed in.
-/
import Derived.Test.YtdbjkmciidcanaaLocalFormsTab
import Derived.Test.YtdbjkmciidcanaaLocalFormsFacts
namespace Go.Proofs.Ytdbjkmciidcanaa
open Go Go.ChangeShapes Go.WideShapes Go.ChangeAt Go.RowKit Ab
set_option linter.unusedVariables false

theorem trod_len {H : Type} {P : Program} {enc : TypeId × Value → H} {W : World} {sp : Nat → Bool} : ∀ {ts : List TypeId} {vs : List Value} {ds : List (DataW H)} {ps : List MemPlace}, DataW.TrodAll enc P W 0 sp true ts vs ds ps → ds.length = ts.length
  | [], [], [], ps, _ => rfl
  | t :: ts, v :: vs, d :: ds, ps, ⟨p, q, h1, h2, e⟩ => by simp [trod_len h2]
  | [], [], _ :: _, _, h => h.elim
  | [], _ :: _, _, _, h => h.elim
  | _ :: _, [], _, _, h => h.elim
  | _ :: _, _ :: _, [], _, h => h.elim
theorem own : ownKnob Try.prog.godebug = none := by kernel_rfl
theorem laidOut : laidOutB Try.prog = true := by kernel_rfl
theorem vGood : goodSet Try.prog [] = true := by kernel_rfl
theorem localForms_law (vs : List Ab.V) (h : TyArgs Try.prog [] vs) : ∃ h', lcall tF 162 vs [] = some (.d (.b true), h') := by
  cases h
  exact ⟨[], fo4⟩

set_option maxRecDepth 100000 in
theorem localForms_lifted (os : Os) (started : os.Started) (H : Type) (enc : TypeId × Value → H) :
    ReturnsInHanded {} Try.checked os 6 .any (Rows.localFormsSpec.pre6 enc Try.prog Try.f6 Rows.localFormsRow.domain false) (Rows.localFormsSpec.post enc Try.prog Try.f6 false true false false) := by
  refine returnsInHanded_of_change (C := Try.checked) own started (by kernel_rfl) Try.func6
    (ChangeSpec.witness6 (enc := enc) (C := Try.checked) false ⟨#[], #[], []⟩ 8 (by kernel_rfl) (by kernel_rfl) (by kernel_rfl) (by kernel_rfl)) ?_
  intro W base args ds gs before hval0 hW hcnd _
  have hval : ∀ (j : Nat) t v, Try.f6.params[j]? = some t → args[j]? = some v → Value.okWide Try.prog W .any base t v := hval0
  have hW' := hW
  obtain ⟨p, q, hA0, hV, rfl, hfz, hnd⟩ := hW
  have hA : DataW.TrodAll enc Try.prog W 0 (fun _ => true) true Try.f6.params.toList args.toList ds p := hA0
  rw [Try.params6] at hA
  refine (law_calls vTabOk vGood (fid := 6) (key := 162) rfl (ts := []) (by decide) localForms_law hA (fun j t v h1 h2 => by simp at h1)).mono fun e W' ⟨he, hw⟩ => ?_
  subst he
  refine ⟨_, rfl, post_law rfl (by kernel_rfl) (tb := 4) Try.underlying4 laidOut (by rw [Try.params6]; decide +kernel) hW' ?_ hw⟩
  have hl := trod_len hA
  obtain ⟨rfl, rfl⟩ := trodVars_none hV
  match ds, hl with
  | [], _ => exact ⟨rfl, rfl, rfl⟩

theorem localForms_holds : Rows.LocalFormsSaid :=
  OpenClaim.holds_of_wide 6 Try.f6 rfl rfl rfl rfl rfl rfl rfl ⟨rfl, rfl, rfl, rfl, rfl⟩ rfl rfl rfl rfl rfl (by kernel_rfl) Try.func6 (by kernel_rfl)
    (of_decide_eq_true (by kernel_rfl)) (by unfold Func.isWrapper; first | (rw [if_pos (by decide +kernel)]; kernel_rfl) | (rw [if_neg (by decide +kernel)]; exact ⟨rfl, rfl⟩))
    (fun os started H enc _ => localForms_lifted os started H enc)
#print axioms localForms_holds
end Go.Proofs.Ytdbjkmciidcanaa
