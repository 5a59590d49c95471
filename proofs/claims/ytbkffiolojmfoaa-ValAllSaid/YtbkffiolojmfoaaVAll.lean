/-
  ValAll: for every input it returns true, and what it was handed reads as it did (two values, two lots of bytes). No condition.
-/
import Derived.Test.YtbkffiolojmfoaaVArgs
import Derived.Test.YtbkffiolojmfoaaPack12
namespace Go.Proofs.Ytbkffiolojmfoaa
open Go Go.ChangeShapes Go.WideShapes Go.ChangeAt Go.RowKit Ab
set_option linter.unusedVariables false

theorem valAll_law (vs : List Ab.V) (h : TyArgs Try.prog [24, 24, 25, 25] vs) : ∃ h', lcall vE 100 vs [] = some (.d (.b true), h') := by
  cases h with | cons f0 d0 h0 r =>
  cases r with | cons f1 d1 h1 r =>
  cases r with | cons f2 d2 h2 r =>
  cases r with | cons f3 d3 h3 r =>
  cases r
  obtain ⟨x0, e0⟩ := arg24 h0
  obtain ⟨x1, e1⟩ := arg24 h1
  obtain ⟨x2, e2⟩ := arg25 h2
  obtain ⟨x3, e3⟩ := arg25 h3
  rw [e0, e1, e2, e3]
  exact all_ok rfl vValOk rfl x0 x1 x2 x3

set_option maxRecDepth 100000 in
theorem valAll_lifted (os : Os) (started : os.Started) (H : Type) (enc : TypeId × Value → H) :
    ReturnsInHanded {} Try.checked os 3 .any (Rows.valAllSpec.pre6 enc Try.prog Try.f3 Rows.valAllRow.domain false) (Rows.valAllSpec.post enc Try.prog Try.f3 false true false false) := by
  refine returnsInHanded_of_change (C := Try.checked) own started (by kernel_rfl) Try.func3
    (ChangeSpec.witness6 (enc := enc) (C := Try.checked) false ⟨#[], #[.agg #[.int .i64 0, .int .i64 0, .string ⟨#[]⟩, .slice none 0 0], .agg #[.int .i64 0, .int .i64 0, .string ⟨#[]⟩, .slice none 0 0], .slice none 0 0, .slice none 0 0], []⟩ 8 (by kernel_rfl) (by kernel_rfl) (by kernel_rfl) (by kernel_rfl)) ?_
  intro W base args ds gs before hval0 hW hcnd _
  have hval : ∀ (j : Nat) t v, Try.f3.params[j]? = some t → args[j]? = some v → Value.okWide Try.prog W .any base t v := hval0
  have hW' := hW
  obtain ⟨p, q, hA0, hV, rfl, hfz, hnd⟩ := hW
  have hA : DataW.TrodAll enc Try.prog W 0 (fun _ => true) true Try.f3.params.toList args.toList ds p := hA0
  rw [Try.params3] at hA
  refine (law_calls vTabOk vGood (fid := 3) (key := 100) rfl (ts := [24, 24, 25, 25]) (by decide) valAll_law hA (fun j t v h1 h2 => ⟨_, _, hval j t v (by rw [Try.params3]; simpa using h1) (by simpa using h2)⟩)).mono fun e W' ⟨he, hw⟩ => ?_
  subst he
  refine ⟨_, rfl, post_law rfl (by kernel_rfl) (tb := 4) Try.underlying4 laidOut (by rw [Try.params3]; decide +kernel) hW' ?_ hw⟩
  have hl := trod_len hA
  obtain ⟨rfl, rfl⟩ := trodVars_none hV
  match ds, hl with
  | [_, _, _, _], _ => exact ⟨rfl, rfl, rfl⟩

theorem valAll_holds : Rows.ValAllSaid :=
  OpenClaim.holds_of_wide 3 Try.f3 rfl rfl rfl rfl rfl rfl rfl ⟨rfl, rfl, rfl, rfl, rfl⟩ rfl rfl rfl rfl rfl (by kernel_rfl) Try.func3 (by kernel_rfl)
    (of_decide_eq_true (by kernel_rfl)) (by unfold Func.isWrapper; first | (rw [if_pos (by decide +kernel)]; kernel_rfl) | (rw [if_neg (by decide +kernel)]; exact ⟨rfl, rfl⟩))
    (fun os started H enc _ => valAll_lifted os started H enc)
#print axioms valAll_holds
end Go.Proofs.Ytbkffiolojmfoaa
