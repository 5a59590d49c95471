/-
 LocalTurn: for every input it returns true, and what it was handed reads as it did. No condition.
-/
import Derived.Test.YtdbjkmciidcanaaLocalTurnTab
import Derived.Test.YtdbjkmciidcanaaGD
import Derived.Test.YtdbjkmciidcanaaPack5
namespace Go.Proofs.Ytdbjkmciidcanaa
open Go Go.ChangeShapes Go.WideShapes Go.ChangeAt Go.RowKit Ab
set_option linter.unusedVariables false
set_option maxRecDepth 100000
theorem localTurnGood : goodSet Try.prog [5, 22] = true := by kernel_rfl
theorem localTurn_law (vs : List Ab.V) (h : TyArgs Try.prog [22, 5, 5] vs) : ∃ h', lcall tF 163 vs [] = some (.d (.b true), h') := by
 cases h with | cons f0 d0 h0 r =>
 cases r with | cons f1 d1 h1 r =>
 cases r with | cons f2 d2 h2 r =>
 cases r
 obtain ⟨x0, rfl⟩ := ty_bytes Try.underlying22 Try.underlying5 (by kernel_rfl) h0
 obtain ⟨x1, rfl⟩ := ty_u8 Try.underlying5 h1
 obtain ⟨x2, rfl⟩ := ty_u8 Try.underlying5 h2
 refine ⟨[], ?_⟩
 show lcall tF 163 [V.d (.l 1 (byteRow x0)), V.d (.i .u8 x1.toNat), V.d (.i .u8 x2.toNat)] [] = _
 exact localTurn_ok x0 x1 x2
set_option maxRecDepth 100000 in
theorem localTurn_lifted (os : Os) (started : os.Started) (H : Type) (enc : TypeId × Value → H) :
  ReturnsInHanded {} Try.checked os 7 .any (Rows.localTurnSpec.pre6 enc Try.prog Try.f7 Rows.localTurnRow.domain false) (Rows.localTurnSpec.post enc Try.prog Try.f7 false true false false) := by
 refine returnsInHanded_of_change (C := Try.checked) own started (by kernel_rfl) Try.func7
  (ChangeSpec.witness6 (enc := enc) (C := Try.checked) false ⟨#[], #[.slice none 0 0, .int .u8 0, .int .u8 0], []⟩ 8 (by kernel_rfl) (by kernel_rfl) (by kernel_rfl) (by kernel_rfl)) ?_
 intro W base args ds gs before hval0 hW hcnd _
 have hval : ∀ (j : Nat) t v, Try.f7.params[j]? = some t → args[j]? = some v → Value.okWide Try.prog W .any base t v := hval0
 have hW' := hW
 obtain ⟨p, q, hA0, hV, rfl, hfz, hnd⟩ := hW
 have hA : DataW.TrodAll enc Try.prog W 0 (fun _ => true) true Try.f7.params.toList args.toList ds p := hA0
 rw [Try.params7] at hA
 refine (law_calls vTabOk localTurnGood (fid := 7) (key := 163) (by kernel_rfl) (ts := [22, 5, 5]) (by decide) localTurn_law hA (fun j t v h1 h2 => ⟨_, _, hval j t v (by rw [Try.params7]; simpa using h1) (by simpa using h2)⟩)).mono fun e W' ⟨he, hw⟩ => ?_
 subst he
 refine ⟨_, rfl, post_law rfl (by kernel_rfl) (tb := 4) Try.underlying4 laidOut (by rw [Try.params7]; decide +kernel) hW' ?_ hw⟩
 have hl := trod_len hA
 obtain ⟨rfl, rfl⟩ := trodVars_none hV
 match ds, hl with
 | [_, _, _], _ => exact ⟨rfl, rfl, rfl⟩
theorem localTurn_holds : Rows.LocalTurnSaid :=
 OpenClaim.holds_of_wide 7 Try.f7 rfl rfl rfl rfl rfl rfl rfl ⟨rfl, rfl, rfl, rfl, rfl⟩ rfl rfl rfl rfl rfl (by kernel_rfl) Try.func7 (by kernel_rfl)
  (of_decide_eq_true (by kernel_rfl)) (by unfold Func.isWrapper; first | (rw [if_pos (by decide +kernel)]; kernel_rfl) | (rw [if_neg (by decide +kernel)]; exact ⟨rfl, rfl⟩))
  (fun os started H enc _ => localTurn_lifted os started H enc)
#print axioms localTurn_holds
end Go.Proofs.Ytdbjkmciidcanaa
