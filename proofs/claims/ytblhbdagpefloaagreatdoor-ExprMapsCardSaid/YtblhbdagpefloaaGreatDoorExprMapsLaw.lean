/-
 ExprMaps: for every input it returns true, and what it was handed reads as it did; tied to the text that lays the listed variables. No condition.
-/
import Derived.Test.YtblhbdagpefloaaGreatDoorExprMapsTab
import Derived.Test.YtblhbdagpefloaaGreatDoorExprMapsE
import Derived.Test.YtblhbdagpefloaaGreatDoorPack4
import Derived.Test.YtblhbdagpefloaaGreatDoorCards
import Derived.Test.YtblhbdagpefloaaGreatDoorTie
import Derived.ProofKit
import Derived.OpenShut
import Derived.Deep.DeepHandedRow
namespace Go.Proofs.YtblhbdagpefloaaGreatDoor
open Go Go.ChangeShapes Go.WideShapes Go.ChangeAt Go.RowKit Ab
set_option linter.unusedVariables false
set_option maxRecDepth 100000
mutual
def flatD : DataW Unit → List Value
 | .agg l => flatDs l
 | .lit (.int k n) => [.int k n]
 | _ => []
def flatDs : List (DataW Unit) → List Value
 | [] => []
 | x :: r => flatD x ++ flatDs r
end
theorem exprMapsOwn : ownKnob Tryz.prog.godebug = none := by kernel_rfl
theorem exprMapsGood : goodSet Tryz.prog [5, 51, 53] = true := by kernel_rfl
theorem exprMaps_law (vs : List Ab.V) (h : TyArgs Tryz.prog [51] vs) : ∃ h', lcall tF 261 vs [] = some (.d (.b true), h') := by
 cases h with | cons f0 d0 h0 r =>
 cases r
 obtain ⟨x0, rfl⟩ := Vx.ty_p8 Tryz.underlying51 Tryz.underlying53 Tryz.underlying5 (by kernel_rfl) (by kernel_rfl) h0
 refine ⟨[], ?_⟩
 show lcall tF 261 [V.d (.l 2 (Vx.p8Row x0))] [] = _
 exact Vx.exprMaps_ok x0
noncomputable def lowB : Nat := (World.holding Tryz.prog default ⟨#[], #[], []⟩).heap.size
def setG (h : Array Go.Obj) (i : Nat) (cs : Array Value) : Array Go.Obj := h.modify i fun
 | .cells _ t fr => .cells cs t fr
 | x => x
noncomputable def laidWorld (os : Os) : World :=
 let w0 := World.holding Tryz.prog os ⟨#[.cells #[.string ⟨#[118, 97, 108, 117, 101, 32, 111, 117, 116, 32, 111, 102, 32, 114, 97, 110, 103, 101]⟩] 158, .cells #[.string ⟨#[105, 110, 118, 97, 108, 105, 100, 32, 115, 121, 110, 116, 97, 120]⟩] 158], #[], []⟩
 { w0 with heap := setG (setG (setG (setG (setG (setG (setG (w0.heap) 6 (flatD Rows.laid_math_bits_deBruijn32tab).toArray) 7 (flatD Rows.laid_math_bits_deBruijn64tab).toArray) 5 (flatD Rows.laid_internal_strconv_uint64pow10).toArray) 3 (flatD Rows.laid_unicode_utf8_acceptRanges).toArray) 1 #[.iface 156 (.pointer (some ⟨lowB + 0, 0, none⟩))]) 0 #[.iface 156 (.pointer (some ⟨lowB + 1, 0, none⟩))]) 2 (flatD Rows.laid_unicode_utf8_first).toArray }
theorem laid_met (os : Os) : laidMet Tryz.prog Rows.exprMapsRow.laid ((laidWorld os).forCall (fun _ _ => 0) ⟨#[], #[.slice none 0 0], []⟩).memory :=
 laidMet_of_run' 8 (by kernel_rfl) (by kernel_rfl)
theorem reads (os : Os) {H : Type} (enc : TypeId × Value → H) : (DataW.whole enc Tryz.prog ((laidWorld os).forCall (fun _ _ => 0) ⟨#[], #[.slice none 0 0], []⟩).memory Tryz.f9.params.toList Rows.exprMapsSpec.vars false (#[.slice none 0 0] : Array Value).toList 8).isSome = true := by kernel_rfl
theorem exprMaps_lifted (os : Os) (started : os.Started) (H : Type) (enc : TypeId × Value → H) (F : Stop.Interp) :
  ReturnsInHanded {} Tryz.checked os 9 .any ((OpenSpec.ofChange Rows.exprMapsSpec).preRow enc Tryz.prog Tryz.f9 Rows.exprMapsRow.domain false Rows.exprMapsRow.laid) (((OpenSpec.ofChange Rows.exprMapsSpec).at F).post enc Tryz.prog Tryz.f9 false true false false) := by
 obtain ⟨x, hx⟩ := Option.isSome_iff_exists.1 (reads os enc)
 refine returnsInHanded_of_row (C := Tryz.checked) (s := OpenSpec.ofChange Rows.exprMapsSpec) exprMapsOwn started (by kernel_rfl) Tryz.func9
  (witness_row_at (enc := enc) (C := Tryz.checked) false (laidWorld os) #[.slice none 0 0] rfl (by kernel_rfl) (by kernel_rfl) (by kernel_rfl)
   (OpenSpec.preRow_of_cond 8 hx rfl (fun k hk => by cases hk) (by kernel_rfl) (laid_met os))) ?_
 intro W base args ds gs before hval0 hW _ _ _ hL _ _
 have hval : ∀ (j : Nat) t v, Tryz.f9.params[j]? = some t → args[j]? = some v → Value.okWide Tryz.prog W .any base t v := hval0
 have hW' := hW
 obtain ⟨p, q, hA0, hV, rfl, hfz, hnd⟩ := hW
 have hA : DataW.TrodAll enc Tryz.prog W 0 (fun _ => true) true Tryz.f9.params.toList args.toList ds p := hA0
 rw [Tryz.params9] at hA
 refine (law_calls vTabOk exprMapsGood (fid := 9) (key := 261) (by kernel_rfl) (ts := [51]) (by decide) exprMaps_law hA (fun j t v h1 h2 => ⟨_, _, hval j t v (by rw [Tryz.params9]; simpa using h1) (by simpa using h2)⟩)).mono fun e W' ⟨he, hw⟩ => ?_
 subst he
 refine ⟨_, rfl, post_law rfl (by kernel_rfl) (tb := 4) Tryz.underlying4 (show laidOutB Tryz.prog = true by kernel_rfl) (by rw [Tryz.params9]; decide +kernel) hW' ?_ hw⟩
 have hl := trod_len hA
 obtain ⟨rfl, rfl⟩ := trodVars_none hV
 match ds, hl with
 | [_], _ => exact ⟨rfl, rfl, rfl⟩
theorem exprMaps_said : Rows.ExprMapsSaid :=
 OpenClaim.holds_of_cond 9 Tryz.f9 rfl rfl rfl rfl rfl rfl rfl ⟨rfl, rfl, rfl, rfl, rfl⟩ rfl rfl rfl rfl rfl (by kernel_rfl) Tryz.func9 (by kernel_rfl)
  (of_decide_eq_true (by kernel_rfl)) (by unfold Func.isWrapper; first | (rw [if_pos (by decide +kernel)]; kernel_rfl) | (rw [if_neg (by decide +kernel)]; exact ⟨rfl, rfl⟩))
  (fun os started H enc _ F => by rw [OpenClaim.pre_eq_preRow]; exact exprMaps_lifted os started H enc F)
theorem exprMapsPlain (f : FuncId) (fn : Func) (hf : Tryz.pinned.checked.prog.funcNamed Rows.exprMapsRow.func = some f) (hfn : Tryz.pinned.checked.prog.funcs[f]? = some fn) :
  true = Tryz.pinned.checked.prog.looks [] ∧ ∀ (j : Nat) t, fn.params[j]? = some t → Tryz.pinned.checked.prog.wantsStandIn t = false := by
 obtain rfl : f = 9 := Option.some.inj ((show Tryz.prog.funcNamed Rows.exprMapsRow.func = some 9 by kernel_rfl).symm.trans hf) |>.symm
 obtain rfl : fn = Tryz.f9 := (Option.some.inj (Tryz.func9.symm.trans hfn)).symm
 refine ⟨by kernel_rfl, fun j t ht => ?_⟩
 rw [Tryz.params9] at ht
 have hm := Array.mem_of_getElem? ht
 simp only [List.mem_toArray, List.mem_cons, List.not_mem_nil, or_false] at hm
 subst hm
 exact (show Tryz.prog.wantsStandIn 51 = false by kernel_rfl)
theorem exprMaps_card : Rows.ExprMapsCardSaid :=
 Claim7.holds_tied_plain_at .later [] _ _ _ _ exprMaps_said (fun _ h => by cases h) (by kernel_rfl) (fun _ h => by cases h) exprMaps_row_tie rfl ⟨rfl, rfl⟩ (by kernel_rfl) rfl exprMapsPlain (by kernel_rfl)
#print axioms exprMaps_card
end Go.Proofs.YtblhbdagpefloaaGreatDoor
