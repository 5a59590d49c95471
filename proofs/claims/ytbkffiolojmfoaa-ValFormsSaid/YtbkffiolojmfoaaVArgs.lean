/-
  What the laws are handed, of the seat's types.
-/
import Derived.Test.YtbkffiolojmfoaaVTab
import Derived.Test.YtbkffiolojmfoaaPack11
namespace Go.Proofs.Ytbkffiolojmfoaa
open Go Go.ChangeShapes Go.WideShapes Go.ChangeAt Go.RowKit Ab
set_option linter.unusedVariables false

theorem own : ownKnob Try.prog.godebug = none := by kernel_rfl
theorem laidOut : laidOutB Try.prog = true := by kernel_rfl

def vTypes : List TypeId := [2, 3, 5, 9, 22, 24, 25, 35]
theorem vGood : goodSet Try.prog vTypes = true := by kernel_rfl

theorem arg25 {f : Nat} {ds : List D} (h : tyD Try.prog f 25 ds) : ∃ l, argV Try.prog 25 ds = .d (.l 1 (byteRows l)) := by
  obtain ⟨l, rfl⟩ := tyD_bytes Try.underlying25 Try.underlying5 (by kernel_rfl) h
  exact ⟨l, by rfl⟩
theorem arg35 {f : Nat} {ds : List D} (h : tyD Try.prog f 35 ds) : ∃ l, argV Try.prog 35 ds = .d (.l 1 (lotRows l)) := by
  obtain ⟨l, rfl⟩ := tyD_lots Try.underlying35 (by kernel_rfl) Try.underlying25 Try.underlying5 (by kernel_rfl) h
  exact ⟨l, by rfl⟩
theorem arg9 {f : Nat} {ds : List D} (h : tyD Try.prog f 9 ds) : ∃ x, argV Try.prog 9 ds = .d (.s x) := by
  obtain ⟨x, rfl⟩ := tyD_str Try.underlying9 h
  exact ⟨x, by rfl⟩
theorem arg5 {f : Nat} {ds : List D} (h : tyD Try.prog f 5 ds) : ∃ c : UInt8, argV Try.prog 5 ds = .d (.i .u8 c.toNat) := by
  obtain ⟨c, rfl⟩ := tyD_u8 Try.underlying5 h
  exact ⟨c, by rfl⟩
theorem arg24 {f : Nat} {ds : List D} (h : tyD Try.prog f 24 ds) : ∃ v : Ab.Val, argV Try.prog 24 ds = v.arg := by
  obtain ⟨v, rfl⟩ := tyD_val Try.underlying24 rfl Try.underlying3 Try.underlying2 Try.underlying9 Try.underlying22 (by kernel_rfl) (by kernel_rfl) (by kernel_rfl) (by kernel_rfl) (by kernel_rfl) f h
  refine ⟨v, ?_⟩
  cases v
  rfl
end Go.Proofs.Ytbkffiolojmfoaa
