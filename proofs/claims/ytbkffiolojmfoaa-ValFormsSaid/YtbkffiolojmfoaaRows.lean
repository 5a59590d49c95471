/-
  NARROWER THAN 'FOR EVERY INPUT', by the rows' own cells (each row's printed sentence says how): ValAll: loops.
  DERIVED. THE GIVEN ROWS OF THIS SEAT. 6 by the template 'for every input the law returns true; each argument reads behind the call as it read before'; 0 by the template 'total and deterministic' (their statements: YtbkffiolojmfoaaTotals.lean).
  GIVEN WITH THE SEED: the statements are not yours to turn. If you find one false, say at which input.
  Laid BY PROGRAM, IN A SANDBOX (cutbox-rows.mjs): the forced cells as the released guide's own fill.sh prints them over the translation 5ada3152edcc7b42… (all of the seat's roots in one cut). By AI agents, Wed Nov 11 2026. No macro, syntax, notation, axiom, sorry.
-/
import Derived.Test.YtbkffiolojmfoaaChecked
import GoSem.Claim
import GoSem.ClaimJoined
import GoSem.ClaimMapViews
import Derived.JoinedTies
import Derived.KernelRfl
namespace Go.Proofs.Ytbkffiolojmfoaa
/- THE CELL 'sum', in the pinned program and in every row, IS THE sha256 OF THE DUMP (.gsa) THAT YtbkffiolojmfoaaProg.lean LOADS. Nothing in Lean hashes anything: it is a label: what it is worth is what the hold of that sum in a sandbox is worth. -/
noncomputable def Try.pinned : Pinned := { name := "ytbkffiolojmfoaa", sum := "5ada3152edcc7b42d789da914e525887f02e2db2ceb3b183571463509498cbd3", checked := Try.checked }
namespace Rows
def none {H : Type} : Left H := { results := [], args := [] }

/-- 'lemmatalaw1.ValAll': WHATEVER THE INPUT: true; the input reads as it did. -/
def valAllSpec : ChangeSpec := { name := "valAll", fn := fun _ => fun
  | [d1, d2, d3, d4] => { results := [.lit (.bool true)], args := [d1, d2, d3, d4] }
  | _ => none }
def valAllRow : OpenClaim := { program := "ytbkffiolojmfoaa", sum := "5ada3152edcc7b42d789da914e525887f02e2db2ceb3b183571463509498cbd3", func := "lemmata/lemmatalaw1.ValAll", spec := "valAll", inPlace := ["slices.overlaps[lemmata/api.Val]"], unfollowed := true, recurses := true, loops := true, apart := false }
def ValAllSaid : Prop := valAllRow.holds Try.pinned (OpenSpec.ofChange valAllSpec)

/-- ITS FALSE NEIGHBOUR: 'it returns false'. Refute it at one input. -/
def valAllWrong : ChangeSpec := { name := "valAll", fn := fun _ => fun
  | [d1, d2, d3, d4] => { results := [.lit (.bool false)], args := [d1, d2, d3, d4] }
  | _ => none }
def ValAllWrongFalsely : Prop := valAllRow.holds Try.pinned (OpenSpec.ofChange valAllWrong)

/-- 'lemmatalaw1.ValRow': WHATEVER THE INPUT: true; the input reads as it did. -/
def valRowSpec : ChangeSpec := { name := "valRow", fn := fun _ => fun
  | [d1, d2] => { results := [.lit (.bool true)], args := [d1, d2] }
  | _ => none }
def valRowRow : OpenClaim := { program := "ytbkffiolojmfoaa", sum := "5ada3152edcc7b42d789da914e525887f02e2db2ceb3b183571463509498cbd3", func := "lemmata/lemmatalaw1.ValRow", spec := "valRow", inPlace := ["slices.overlaps[lemmata/api.Val]"], unfollowed := true, recurses := true, apart := false }
def ValRowSaid : Prop := valRowRow.holds Try.pinned (OpenSpec.ofChange valRowSpec)

/-- ITS FALSE NEIGHBOUR: 'it returns false'. Refute it at one input. -/
def valRowWrong : ChangeSpec := { name := "valRow", fn := fun _ => fun
  | [d1, d2] => { results := [.lit (.bool false)], args := [d1, d2] }
  | _ => none }
def ValRowWrongFalsely : Prop := valRowRow.holds Try.pinned (OpenSpec.ofChange valRowWrong)

/-- 'lemmatalaw1.ValOrder': WHATEVER THE INPUT: true; the input reads as it did. -/
def valOrderSpec : ChangeSpec := { name := "valOrder", fn := fun _ => fun
  | [d1, d2, d3] => { results := [.lit (.bool true)], args := [d1, d2, d3] }
  | _ => none }
def valOrderRow : OpenClaim := { program := "ytbkffiolojmfoaa", sum := "5ada3152edcc7b42d789da914e525887f02e2db2ceb3b183571463509498cbd3", func := "lemmata/lemmatalaw1.ValOrder", spec := "valOrder", inPlace := ["slices.overlaps[lemmata/api.Val]"], unfollowed := true, recurses := true, apart := false }
def ValOrderSaid : Prop := valOrderRow.holds Try.pinned (OpenSpec.ofChange valOrderSpec)

/-- ITS FALSE NEIGHBOUR: 'it returns false'. Refute it at one input. -/
def valOrderWrong : ChangeSpec := { name := "valOrder", fn := fun _ => fun
  | [d1, d2, d3] => { results := [.lit (.bool false)], args := [d1, d2, d3] }
  | _ => none }
def ValOrderWrongFalsely : Prop := valOrderRow.holds Try.pinned (OpenSpec.ofChange valOrderWrong)

/-- 'lemmatalaw1.ValForms': WHATEVER THE INPUT: true; the input reads as it did. -/
def valFormsSpec : ChangeSpec := { name := "valForms", fn := fun _ => fun
  | [] => { results := [.lit (.bool true)], args := [] }
  | _ => none }
def valFormsRow : OpenClaim := { program := "ytbkffiolojmfoaa", sum := "5ada3152edcc7b42d789da914e525887f02e2db2ceb3b183571463509498cbd3", func := "lemmata/lemmatalaw1.ValForms", spec := "valForms", inPlace := ["slices.overlaps[lemmata/api.Val]"], unfollowed := true, recurses := true, apart := false }
def ValFormsSaid : Prop := valFormsRow.holds Try.pinned (OpenSpec.ofChange valFormsSpec)

/-- ITS FALSE NEIGHBOUR: 'it returns false'. Refute it at one input. -/
def valFormsWrong : ChangeSpec := { name := "valForms", fn := fun _ => fun
  | [] => { results := [.lit (.bool false)], args := [] }
  | _ => none }
def ValFormsWrongFalsely : Prop := valFormsRow.holds Try.pinned (OpenSpec.ofChange valFormsWrong)

/-- 'lemmatalaw1.ValSets': WHATEVER THE INPUT: true; the input reads as it did. -/
def valSetsSpec : ChangeSpec := { name := "valSets", fn := fun _ => fun
  | [d1, d2] => { results := [.lit (.bool true)], args := [d1, d2] }
  | _ => none }
def valSetsRow : OpenClaim := { program := "ytbkffiolojmfoaa", sum := "5ada3152edcc7b42d789da914e525887f02e2db2ceb3b183571463509498cbd3", func := "lemmata/lemmatalaw1.ValSets", spec := "valSets", inPlace := ["slices.overlaps[lemmata/api.Val]"], unfollowed := true, recurses := true, apart := false }
def ValSetsSaid : Prop := valSetsRow.holds Try.pinned (OpenSpec.ofChange valSetsSpec)

/-- ITS FALSE NEIGHBOUR: 'it returns false'. Refute it at one input. -/
def valSetsWrong : ChangeSpec := { name := "valSets", fn := fun _ => fun
  | [d1, d2] => { results := [.lit (.bool false)], args := [d1, d2] }
  | _ => none }
def ValSetsWrongFalsely : Prop := valSetsRow.holds Try.pinned (OpenSpec.ofChange valSetsWrong)

/-- 'lemmatalaw1.ValSize': WHATEVER THE INPUT: true; the input reads as it did. -/
def valSizeSpec : ChangeSpec := { name := "valSize", fn := fun _ => fun
  | [d] => { results := [.lit (.bool true)], args := [d] }
  | _ => none }
def valSizeRow : OpenClaim := { program := "ytbkffiolojmfoaa", sum := "5ada3152edcc7b42d789da914e525887f02e2db2ceb3b183571463509498cbd3", func := "lemmata/lemmatalaw1.ValSize", spec := "valSize", inPlace := ["slices.overlaps[lemmata/api.Val]"], unfollowed := true, recurses := true, apart := false }
def ValSizeSaid : Prop := valSizeRow.holds Try.pinned (OpenSpec.ofChange valSizeSpec)

/-- ITS FALSE NEIGHBOUR: 'it returns false'. Refute it at one input. -/
def valSizeWrong : ChangeSpec := { name := "valSize", fn := fun _ => fun
  | [d] => { results := [.lit (.bool false)], args := [d] }
  | _ => none }
def ValSizeWrongFalsely : Prop := valSizeRow.holds Try.pinned (OpenSpec.ofChange valSizeWrong)

/- THE SECOND FORM. 'bulk': how many values and letters a reading holds, each counted each time it is reached (what is shared counts as often as it is met; a slice's spare places count too). A statement '..UptoSaid' is the law's where the arguments, and the package variables that the reading takes, are together of bulk at most 1048576: NARROWER than '..Said'. Prove '..Said' where nothing that the law and all that it calls make is longer than what came in: it says more and counts as full. Else prove '..UptoSaid'. A law counts once. -/
mutual
def uptoBulk {H : Type} : DataW H → Nat
  | .lit (.string bytes) => bytes.length + 1
  | .lit _ => 1
  | .nil => 1
  | .ptr d => uptoBulk d + 1
  | .slice elems spare => uptoBulkAll elems + uptoBulkAll spare + 1
  | .agg parts => uptoBulkAll parts + 1
  | .iface _ d => uptoBulk d + 1
  | .map entries => uptoBulkEntries entries + 1
  | .held _ => 1
def uptoBulkAll {H : Type} : List (DataW H) → Nat
  | [] => 0
  | d :: r => uptoBulk d + uptoBulkAll r
def uptoBulkEntries {H : Type} : List (Lit × DataW H) → Nat
  | [] => 0
  | x :: r => uptoBulkEntry x + uptoBulkEntries r
def uptoBulkEntry {H : Type} : Lit × DataW H → Nat
  | (.string bytes, d) => bytes.length + uptoBulk d + 1
  | (_, d) => uptoBulk d + 1
 end
def uptoSmall : (H : Type) → List (DataW H) → Bool := fun _ ds => decide (uptoBulkAll ds ≤ 1048576)
def OpenSpec.upto (s : _root_.Go.ChangeSpec) : _root_.Go.OpenSpec := { _root_.Go.OpenSpec.ofChange s with cond := some uptoSmall }

/-- 'lemmatalaw1.ValAll', WHERE WHAT IT READS IS OF BULK AT MOST 1048576: true; the input reads as it did. -/
def valAllUptoRow : OpenClaim := { program := "ytbkffiolojmfoaa", sum := "5ada3152edcc7b42d789da914e525887f02e2db2ceb3b183571463509498cbd3", func := "lemmata/lemmatalaw1.ValAll", spec := "valAll", inPlace := ["slices.overlaps[lemmata/api.Val]"], unfollowed := true, recurses := true, loops := true, apart := false, narrowed := true }
def ValAllUptoSaid : Prop := valAllUptoRow.holds Try.pinned (OpenSpec.upto valAllSpec)

/-- 'lemmatalaw1.ValRow', WHERE WHAT IT READS IS OF BULK AT MOST 1048576: true; the input reads as it did. -/
def valRowUptoRow : OpenClaim := { program := "ytbkffiolojmfoaa", sum := "5ada3152edcc7b42d789da914e525887f02e2db2ceb3b183571463509498cbd3", func := "lemmata/lemmatalaw1.ValRow", spec := "valRow", inPlace := ["slices.overlaps[lemmata/api.Val]"], unfollowed := true, recurses := true, apart := false, narrowed := true }
def ValRowUptoSaid : Prop := valRowUptoRow.holds Try.pinned (OpenSpec.upto valRowSpec)

/-- 'lemmatalaw1.ValOrder', WHERE WHAT IT READS IS OF BULK AT MOST 1048576: true; the input reads as it did. -/
def valOrderUptoRow : OpenClaim := { program := "ytbkffiolojmfoaa", sum := "5ada3152edcc7b42d789da914e525887f02e2db2ceb3b183571463509498cbd3", func := "lemmata/lemmatalaw1.ValOrder", spec := "valOrder", inPlace := ["slices.overlaps[lemmata/api.Val]"], unfollowed := true, recurses := true, apart := false, narrowed := true }
def ValOrderUptoSaid : Prop := valOrderUptoRow.holds Try.pinned (OpenSpec.upto valOrderSpec)

/-- 'lemmatalaw1.ValForms', WHERE WHAT IT READS IS OF BULK AT MOST 1048576: true; the input reads as it did. -/
def valFormsUptoRow : OpenClaim := { program := "ytbkffiolojmfoaa", sum := "5ada3152edcc7b42d789da914e525887f02e2db2ceb3b183571463509498cbd3", func := "lemmata/lemmatalaw1.ValForms", spec := "valForms", inPlace := ["slices.overlaps[lemmata/api.Val]"], unfollowed := true, recurses := true, apart := false, narrowed := true }
def ValFormsUptoSaid : Prop := valFormsUptoRow.holds Try.pinned (OpenSpec.upto valFormsSpec)

/-- 'lemmatalaw1.ValSets', WHERE WHAT IT READS IS OF BULK AT MOST 1048576: true; the input reads as it did. -/
def valSetsUptoRow : OpenClaim := { program := "ytbkffiolojmfoaa", sum := "5ada3152edcc7b42d789da914e525887f02e2db2ceb3b183571463509498cbd3", func := "lemmata/lemmatalaw1.ValSets", spec := "valSets", inPlace := ["slices.overlaps[lemmata/api.Val]"], unfollowed := true, recurses := true, apart := false, narrowed := true }
def ValSetsUptoSaid : Prop := valSetsUptoRow.holds Try.pinned (OpenSpec.upto valSetsSpec)

/-- 'lemmatalaw1.ValSize', WHERE WHAT IT READS IS OF BULK AT MOST 1048576: true; the input reads as it did. -/
def valSizeUptoRow : OpenClaim := { program := "ytbkffiolojmfoaa", sum := "5ada3152edcc7b42d789da914e525887f02e2db2ceb3b183571463509498cbd3", func := "lemmata/lemmatalaw1.ValSize", spec := "valSize", inPlace := ["slices.overlaps[lemmata/api.Val]"], unfollowed := true, recurses := true, apart := false, narrowed := true }
def ValSizeUptoSaid : Prop := valSizeUptoRow.holds Try.pinned (OpenSpec.upto valSizeSpec)

end Rows
end Go.Proofs.Ytbkffiolojmfoaa
