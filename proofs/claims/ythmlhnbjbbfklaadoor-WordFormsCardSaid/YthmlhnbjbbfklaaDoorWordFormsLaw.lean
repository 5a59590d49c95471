/-
 WordForms: for every input it returns true, and what it was handed reads as it did; tied to the text that lays the listed variables. No condition.
-/
import Derived.Test.YthmlhnbjbbfklaaDoorWordFormsTab
import Derived.Test.YthmlhnbjbbfklaaDoorWordFormsE
import Derived.Test.YthmlhnbjbbfklaaDoorPack4
import Derived.Test.YthmlhnbjbbfklaaDoorCards
import Derived.Test.YthmlhnbjbbfklaaDoorTie
import Derived.ProofKit
import Derived.OpenShut
import Derived.Deep.DeepHandedRow
namespace Go.Proofs.YthmlhnbjbbfklaaDoor
open Go Go.ChangeShapes Go.WideShapes Go.ChangeAt Go.RowKit Ab
set_option linter.unusedVariables false
set_option maxRecDepth 100000
mutual
def flatD : DataW Unit → List Value
 | .agg l => flatDs l
 | .lit (.int k n) => [.int k n]
 | _ => []
def flatDs : List (DataW Unit) → List Value
 | [] => []
 | x :: r => flatD x ++ flatDs r
end
theorem wordFormsOwn : ownKnob Tryd.prog.godebug = none := by kernel_rfl
theorem wordFormsGood : goodSet Tryd.prog [] = true := by kernel_rfl
theorem wordForms_law (vs : List Ab.V) (h : TyArgs Tryd.prog [] vs) : ∃ h', lcall tF 443 vs [] = some (.d (.b true), h') := by
 cases h
 exact ⟨[], Wd.wordForms_all⟩
noncomputable def lowB : Nat := (World.holding Tryd.prog default ⟨#[], #[], []⟩).heap.size
def setG (h : Array Go.Obj) (i : Nat) (cs : Array Value) : Array Go.Obj := h.modify i fun
 | .cells _ t fr => .cells cs t fr
 | x => x
noncomputable def laidWorld (os : Os) : World :=
 let w0 := World.holding Tryd.prog os ⟨#[.cells #[.string ⟨#[118, 97, 108, 117, 101, 32, 111, 117, 116, 32, 111, 102, 32, 114, 97, 110, 103, 101]⟩] 81, .cells #[.string ⟨#[105, 110, 118, 97, 108, 105, 100, 32, 115, 121, 110, 116, 97, 120]⟩] 81], #[], []⟩
 { w0 with heap := setG (setG (setG (setG (setG (w0.heap) 4 (flatD Rows.laid_math_bits_deBruijn32tab).toArray) 5 (flatD Rows.laid_math_bits_deBruijn64tab).toArray) 3 (flatD Rows.laid_internal_strconv_uint64pow10).toArray) 1 #[.iface 79 (.pointer (some ⟨lowB + 0, 0, none⟩))]) 0 #[.iface 79 (.pointer (some ⟨lowB + 1, 0, none⟩))] }
theorem laid_met (os : Os) : laidMet Tryd.prog Rows.wordFormsRow.laid ((laidWorld os).forCall (fun _ _ => 0) ⟨#[], #[], []⟩).memory :=
 laidMet_of_run' 8 (by kernel_rfl) (by kernel_rfl)
theorem reads (os : Os) {H : Type} (enc : TypeId × Value → H) : (DataW.whole enc Tryd.prog ((laidWorld os).forCall (fun _ _ => 0) ⟨#[], #[], []⟩).memory Tryd.f4.params.toList Rows.wordFormsSpec.vars false (#[] : Array Value).toList 8).isSome = true := by kernel_rfl
theorem wordForms_lifted (os : Os) (started : os.Started) (H : Type) (enc : TypeId × Value → H) (F : Stop.Interp) :
  ReturnsInHanded {} Tryd.checked os 4 .any ((OpenSpec.ofChange Rows.wordFormsSpec).preRow enc Tryd.prog Tryd.f4 Rows.wordFormsRow.domain false Rows.wordFormsRow.laid) (((OpenSpec.ofChange Rows.wordFormsSpec).at F).post enc Tryd.prog Tryd.f4 false true false false) := by
 obtain ⟨x, hx⟩ := Option.isSome_iff_exists.1 (reads os enc)
 refine returnsInHanded_of_row (C := Tryd.checked) (s := OpenSpec.ofChange Rows.wordFormsSpec) wordFormsOwn started (by kernel_rfl) Tryd.func4
  (witness_row_at (enc := enc) (C := Tryd.checked) false (laidWorld os) #[] rfl (by kernel_rfl) (by kernel_rfl) (by kernel_rfl)
   (OpenSpec.preRow_of_cond 8 hx rfl (fun k hk => by cases hk) (by kernel_rfl) (laid_met os))) ?_
 intro W base args ds gs before hval0 hW _ _ _ hL _ _
 have hval : ∀ (j : Nat) t v, Tryd.f4.params[j]? = some t → args[j]? = some v → Value.okWide Tryd.prog W .any base t v := hval0
 have hW' := hW
 obtain ⟨p, q, hA0, hV, rfl, hfz, hnd⟩ := hW
 have hA : DataW.TrodAll enc Tryd.prog W 0 (fun _ => true) true Tryd.f4.params.toList args.toList ds p := hA0
 rw [Tryd.params4] at hA
 refine (law_calls vTabOk wordFormsGood (fid := 4) (key := 443) (by kernel_rfl) (ts := []) (by decide) wordForms_law hA (fun j t v h1 h2 => (by simp at h1))).mono fun e W' ⟨he, hw⟩ => ?_
 subst he
 refine ⟨_, rfl, post_law rfl (by kernel_rfl) (tb := 4) Tryd.underlying4 (show laidOutB Tryd.prog = true by kernel_rfl) (by rw [Tryd.params4]; decide +kernel) hW' ?_ hw⟩
 have hl := trod_len hA
 obtain ⟨rfl, rfl⟩ := trodVars_none hV
 match ds, hl with
 | [], _ => exact ⟨rfl, rfl, rfl⟩
theorem wordForms_said : Rows.WordFormsSaid :=
 OpenClaim.holds_of_cond 4 Tryd.f4 rfl rfl rfl rfl rfl rfl rfl ⟨rfl, rfl, rfl, rfl, rfl⟩ rfl rfl rfl rfl rfl (by kernel_rfl) Tryd.func4 (by kernel_rfl)
  (of_decide_eq_true (by kernel_rfl)) (by unfold Func.isWrapper; first | (rw [if_pos (by decide +kernel)]; kernel_rfl) | (rw [if_neg (by decide +kernel)]; exact ⟨rfl, rfl⟩))
  (fun os started H enc _ F => by rw [OpenClaim.pre_eq_preRow]; exact wordForms_lifted os started H enc F)
theorem wordFormsPlain (f : FuncId) (fn : Func) (hf : Tryd.pinned.checked.prog.funcNamed Rows.wordFormsRow.func = some f) (hfn : Tryd.pinned.checked.prog.funcs[f]? = some fn) :
  true = Tryd.pinned.checked.prog.looks [] ∧ ∀ (j : Nat) t, fn.params[j]? = some t → Tryd.pinned.checked.prog.wantsStandIn t = false := by
 obtain rfl : f = 4 := Option.some.inj ((show Tryd.prog.funcNamed Rows.wordFormsRow.func = some 4 by kernel_rfl).symm.trans hf) |>.symm
 obtain rfl : fn = Tryd.f4 := (Option.some.inj (Tryd.func4.symm.trans hfn)).symm
 refine ⟨by kernel_rfl, fun j t ht => ?_⟩
 rw [Tryd.params4] at ht
 simp at ht
theorem wordForms_card : Rows.WordFormsCardSaid :=
 Claim7.holds_tied_plain_at .later [] _ _ _ _ wordForms_said (fun _ h => by cases h) (by kernel_rfl) (fun _ h => by cases h) wordForms_row_tie rfl ⟨rfl, rfl⟩ (by kernel_rfl) rfl wordFormsPlain (by kernel_rfl)
#print axioms wordForms_card
end Go.Proofs.YthmlhnbjbbfklaaDoor
