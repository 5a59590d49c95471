/-
  ValOrder: for every input it returns true, and what it was handed reads as it did. No condition.
-/
import Derived.Test.YtbkffiolojmfoaaTab
import Derived.Test.YtbkffiolojmfoaaPack11
namespace Go.Proofs.Ytbkffiolojmfoaa
open Go Go.ChangeShapes Go.WideShapes Go.ChangeAt Go.RowKit Ab
set_option linter.unusedVariables false

theorem own : ownKnob Try.prog.godebug = none := by kernel_rfl
theorem laidOut : laidOutB Try.prog = true := by kernel_rfl

def vTypes : List TypeId := [2, 3, 5, 9, 22, 24, 25, 35]
theorem vGood : goodSet Try.prog vTypes = true := by kernel_rfl

theorem arg25 {f : Nat} {ds : List D} (h : tyD Try.prog f 25 ds) : ∃ l, argV Try.prog 25 ds = .d (.l 1 (byteRows l)) := by
  obtain ⟨l, rfl⟩ := tyD_bytes Try.underlying25 Try.underlying5 (by kernel_rfl) h
  exact ⟨l, by rfl⟩

theorem order_law (vs : List Ab.V) (h : TyArgs Try.prog [25, 25, 25] vs) : ∃ h', lcall vE 102 vs [] = some (.d (.b true), h') := by
  cases h with | cons f1 d1 h1 r =>
  cases r with | cons f2 d2 h2 r =>
  cases r with | cons f3 d3 h3 r =>
  cases r
  obtain ⟨x, e1⟩ := arg25 h1
  obtain ⟨y, e2⟩ := arg25 h2
  obtain ⟨z, e3⟩ := arg25 h3
  rw [e1, e2, e3]
  exact ⟨[], order_ok rfl vValOk x y z⟩

set_option maxRecDepth 100000 in
theorem order_lifted (os : Os) (started : os.Started) (H : Type) (enc : TypeId × Value → H) :
    ReturnsInHanded {} Try.checked os 5 .any (Rows.valOrderSpec.pre6 enc Try.prog Try.f5 Rows.valOrderRow.domain false) (Rows.valOrderSpec.post enc Try.prog Try.f5 false true false false) := by
  refine returnsInHanded_of_change (C := Try.checked) own started (by kernel_rfl) Try.func5
    (ChangeSpec.witness6 (enc := enc) (C := Try.checked) false ⟨#[], #[.slice none 0 0, .slice none 0 0, .slice none 0 0], []⟩ 8 (by kernel_rfl) (by kernel_rfl) (by kernel_rfl) (by kernel_rfl)) ?_
  intro W base args ds gs before hval0 hW hcnd _
  have hval : ∀ (j : Nat) t v, Try.f5.params[j]? = some t → args[j]? = some v → Value.okWide Try.prog W .any base t v := hval0
  have hW' := hW
  obtain ⟨p, q, hA0, hV, rfl, hfz, hnd⟩ := hW
  have hA : DataW.TrodAll enc Try.prog W 0 (fun _ => true) true Try.f5.params.toList args.toList ds p := hA0
  rw [Try.params5] at hA
  refine (law_calls vTabOk vGood (fid := 5) (key := 102) rfl (ts := [25, 25, 25]) (by decide) order_law hA (fun j t v h1 h2 => ⟨_, _, hval j t v (by rw [Try.params5]; simpa using h1) (by simpa using h2)⟩)).mono fun e W' ⟨he, hw⟩ => ?_
  subst he
  refine ⟨_, rfl, post_law rfl (by kernel_rfl) (tb := 4) Try.underlying4 laidOut (by rw [Try.params5]; decide +kernel) hW' ?_ hw⟩
  have hl := trod_len hA
  obtain ⟨rfl, rfl⟩ := trodVars_none hV
  match ds, hl with
  | [_, _, _], _ => exact ⟨rfl, rfl, rfl⟩

theorem order_holds : Rows.ValOrderSaid :=
  OpenClaim.holds_of_wide 5 Try.f5 rfl rfl rfl rfl rfl rfl rfl ⟨rfl, rfl, rfl, rfl, rfl⟩ rfl rfl rfl rfl rfl (by kernel_rfl) Try.func5 (by kernel_rfl)
    (of_decide_eq_true (by kernel_rfl)) (by unfold Func.isWrapper; first | (rw [if_pos (by decide +kernel)]; kernel_rfl) | (rw [if_neg (by decide +kernel)]; exact ⟨rfl, rfl⟩))
    (fun os started H enc _ => order_lifted os started H enc)
#print axioms order_holds
end Go.Proofs.Ytbkffiolojmfoaa
