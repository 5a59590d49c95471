/-
  No cell of these rows narrows 'for every input' (looked for: loops, veiled, ifaces, maps, wideKeys, modest, calm, conditions, laid).
  DERIVED. THE GIVEN ROWS OF THIS SEAT. 4 by the template 'for every input the law returns true; each argument reads behind the call as it read before'; 0 by the template 'total and deterministic' (their statements: YthmlhnbjbbfklaaGreatTotals.lean).
  GIVEN WITH THE SEED: the statements are not yours to turn. If you find one false, say at which input.
  Laid BY PROGRAM, IN A SANDBOX (cutbox-rows.mjs): the forced cells as the released guide's own fill.sh prints them over the translation e4fb7091b9c8bd68… (all of the seat's roots in one cut). By AI agents, Wed Nov 11 2026. No macro, syntax, notation, axiom, sorry.
-/
import Derived.Test.YthmlhnbjbbfklaaGreatChecked
import GoSem.Claim
import GoSem.ClaimJoined
import GoSem.ClaimMapViews
import Derived.JoinedTies
import Derived.KernelRfl
namespace Go.Proofs.YthmlhnbjbbfklaaGreat
/- THE CELL 'sum', in the pinned program and in every row, IS THE sha256 OF THE DUMP (.gsa) THAT YthmlhnbjbbfklaaGreatProg.lean LOADS. Nothing in Lean hashes anything: it is a label: what it is worth is what the hold of that sum in a sandbox is worth. -/
noncomputable def Tryz.pinned : Pinned := { name := "ythmlhnbjbbfklaagreat", sum := "e4fb7091b9c8bd680c32d7c6cba83c822ff33d07420f06b553010495e700ca8b", checked := Tryz.checked }
namespace Rows
def none {H : Type} : Left H := { results := [], args := [] }

/-- 'lemmatalaw20.InstAll': WHATEVER THE INPUT: true; the input reads as it did. -/
def instAllSpec : ChangeSpec := { name := "instAll", fn := fun _ => fun
  | [d1, d2, d3, d4, d5] => { results := [.lit (.bool true)], args := [d1, d2, d3, d4, d5] }
  | _ => none }
def instAllRow : OpenClaim := { program := "ythmlhnbjbbfklaagreat", sum := "e4fb7091b9c8bd680c32d7c6cba83c822ff33d07420f06b553010495e700ca8b", func := "lemmata/lemmatalaw20.InstAll", spec := "instAll", unfollowed := true, recurses := true, plainKeys := false, apart := false }
def InstAllSaid : Prop := instAllRow.holds Tryz.pinned (OpenSpec.ofChange instAllSpec)

/-- ITS FALSE NEIGHBOUR: 'it returns false'. Refute it at one input. -/
def instAllWrong : ChangeSpec := { name := "instAll", fn := fun _ => fun
  | [d1, d2, d3, d4, d5] => { results := [.lit (.bool false)], args := [d1, d2, d3, d4, d5] }
  | _ => none }
def InstAllWrongFalsely : Prop := instAllRow.holds Tryz.pinned (OpenSpec.ofChange instAllWrong)

/-- 'lemmatalaw20.InstArgs': WHATEVER THE INPUT: true; the input reads as it did. -/
def instArgsSpec : ChangeSpec := { name := "instArgs", fn := fun _ => fun
  | [d1, d2] => { results := [.lit (.bool true)], args := [d1, d2] }
  | _ => none }
def instArgsRow : OpenClaim := { program := "ythmlhnbjbbfklaagreat", sum := "e4fb7091b9c8bd680c32d7c6cba83c822ff33d07420f06b553010495e700ca8b", func := "lemmata/lemmatalaw20.InstArgs", spec := "instArgs", unfollowed := true, recurses := true, plainKeys := false, apart := false }
def InstArgsSaid : Prop := instArgsRow.holds Tryz.pinned (OpenSpec.ofChange instArgsSpec)

/-- ITS FALSE NEIGHBOUR: 'it returns false'. Refute it at one input. -/
def instArgsWrong : ChangeSpec := { name := "instArgs", fn := fun _ => fun
  | [d1, d2] => { results := [.lit (.bool false)], args := [d1, d2] }
  | _ => none }
def InstArgsWrongFalsely : Prop := instArgsRow.holds Tryz.pinned (OpenSpec.ofChange instArgsWrong)

/-- 'lemmatalaw20.InstForms': WHATEVER THE INPUT: true; the input reads as it did. -/
def instFormsSpec : ChangeSpec := { name := "instForms", fn := fun _ => fun
  | [] => { results := [.lit (.bool true)], args := [] }
  | _ => none }
def instFormsRow : OpenClaim := { program := "ythmlhnbjbbfklaagreat", sum := "e4fb7091b9c8bd680c32d7c6cba83c822ff33d07420f06b553010495e700ca8b", func := "lemmata/lemmatalaw20.InstForms", spec := "instForms", unfollowed := true, recurses := true, plainKeys := false, apart := false }
def InstFormsSaid : Prop := instFormsRow.holds Tryz.pinned (OpenSpec.ofChange instFormsSpec)

/-- ITS FALSE NEIGHBOUR: 'it returns false'. Refute it at one input. -/
def instFormsWrong : ChangeSpec := { name := "instForms", fn := fun _ => fun
  | [] => { results := [.lit (.bool false)], args := [] }
  | _ => none }
def InstFormsWrongFalsely : Prop := instFormsRow.holds Tryz.pinned (OpenSpec.ofChange instFormsWrong)

/-- 'lemmatalaw20.InstCount': WHATEVER THE INPUT: true; the input reads as it did. -/
def instCountSpec : ChangeSpec := { name := "instCount", fn := fun _ => fun
  | [d1, d2] => { results := [.lit (.bool true)], args := [d1, d2] }
  | _ => none }
def instCountRow : OpenClaim := { program := "ythmlhnbjbbfklaagreat", sum := "e4fb7091b9c8bd680c32d7c6cba83c822ff33d07420f06b553010495e700ca8b", func := "lemmata/lemmatalaw20.InstCount", spec := "instCount", unfollowed := true, recurses := true, plainKeys := false, apart := false }
def InstCountSaid : Prop := instCountRow.holds Tryz.pinned (OpenSpec.ofChange instCountSpec)

/-- ITS FALSE NEIGHBOUR: 'it returns false'. Refute it at one input. -/
def instCountWrong : ChangeSpec := { name := "instCount", fn := fun _ => fun
  | [d1, d2] => { results := [.lit (.bool false)], args := [d1, d2] }
  | _ => none }
def InstCountWrongFalsely : Prop := instCountRow.holds Tryz.pinned (OpenSpec.ofChange instCountWrong)

/- THE SECOND FORM. 'bulk': how many values and letters a reading holds, each counted each time it is reached (what is shared counts as often as it is met; a slice's spare places count too). A statement '..UptoSaid' is the law's where the arguments, and the package variables that the reading takes, are together of bulk at most 1048576: NARROWER than '..Said'. Prove '..Said' where nothing that the law and all that it calls make is longer than what came in: it says more and counts as full. Else prove '..UptoSaid'. A law counts once. -/
mutual
def uptoBulk {H : Type} : DataW H → Nat
  | .lit (.string bytes) => bytes.length + 1
  | .lit _ => 1
  | .nil => 1
  | .ptr d => uptoBulk d + 1
  | .slice elems spare => uptoBulkAll elems + uptoBulkAll spare + 1
  | .agg parts => uptoBulkAll parts + 1
  | .iface _ d => uptoBulk d + 1
  | .map entries => uptoBulkEntries entries + 1
  | .held _ => 1
def uptoBulkAll {H : Type} : List (DataW H) → Nat
  | [] => 0
  | d :: r => uptoBulk d + uptoBulkAll r
def uptoBulkEntries {H : Type} : List (Lit × DataW H) → Nat
  | [] => 0
  | x :: r => uptoBulkEntry x + uptoBulkEntries r
def uptoBulkEntry {H : Type} : Lit × DataW H → Nat
  | (.string bytes, d) => bytes.length + uptoBulk d + 1
  | (_, d) => uptoBulk d + 1
 end
def uptoSmall : (H : Type) → List (DataW H) → Bool := fun _ ds => decide (uptoBulkAll ds ≤ 1048576)
def OpenSpec.upto (s : _root_.Go.ChangeSpec) : _root_.Go.OpenSpec := { _root_.Go.OpenSpec.ofChange s with cond := some uptoSmall }

/-- 'lemmatalaw20.InstAll', WHERE WHAT IT READS IS OF BULK AT MOST 1048576: true; the input reads as it did. -/
def instAllUptoRow : OpenClaim := { program := "ythmlhnbjbbfklaagreat", sum := "e4fb7091b9c8bd680c32d7c6cba83c822ff33d07420f06b553010495e700ca8b", func := "lemmata/lemmatalaw20.InstAll", spec := "instAll", unfollowed := true, recurses := true, plainKeys := false, apart := false, narrowed := true }
def InstAllUptoSaid : Prop := instAllUptoRow.holds Tryz.pinned (OpenSpec.upto instAllSpec)

/-- 'lemmatalaw20.InstArgs', WHERE WHAT IT READS IS OF BULK AT MOST 1048576: true; the input reads as it did. -/
def instArgsUptoRow : OpenClaim := { program := "ythmlhnbjbbfklaagreat", sum := "e4fb7091b9c8bd680c32d7c6cba83c822ff33d07420f06b553010495e700ca8b", func := "lemmata/lemmatalaw20.InstArgs", spec := "instArgs", unfollowed := true, recurses := true, plainKeys := false, apart := false, narrowed := true }
def InstArgsUptoSaid : Prop := instArgsUptoRow.holds Tryz.pinned (OpenSpec.upto instArgsSpec)

/-- 'lemmatalaw20.InstForms', WHERE WHAT IT READS IS OF BULK AT MOST 1048576: true; the input reads as it did. -/
def instFormsUptoRow : OpenClaim := { program := "ythmlhnbjbbfklaagreat", sum := "e4fb7091b9c8bd680c32d7c6cba83c822ff33d07420f06b553010495e700ca8b", func := "lemmata/lemmatalaw20.InstForms", spec := "instForms", unfollowed := true, recurses := true, plainKeys := false, apart := false, narrowed := true }
def InstFormsUptoSaid : Prop := instFormsUptoRow.holds Tryz.pinned (OpenSpec.upto instFormsSpec)

/-- 'lemmatalaw20.InstCount', WHERE WHAT IT READS IS OF BULK AT MOST 1048576: true; the input reads as it did. -/
def instCountUptoRow : OpenClaim := { program := "ythmlhnbjbbfklaagreat", sum := "e4fb7091b9c8bd680c32d7c6cba83c822ff33d07420f06b553010495e700ca8b", func := "lemmata/lemmatalaw20.InstCount", spec := "instCount", unfollowed := true, recurses := true, plainKeys := false, apart := false, narrowed := true }
def InstCountUptoSaid : Prop := instCountUptoRow.holds Tryz.pinned (OpenSpec.upto instCountSpec)

end Rows
end Go.Proofs.YthmlhnbjbbfklaaGreat
