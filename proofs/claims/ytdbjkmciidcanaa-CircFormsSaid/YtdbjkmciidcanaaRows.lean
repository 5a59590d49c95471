/-
  No cell of these rows narrows 'for every input' (looked for: loops, veiled, ifaces, maps, wideKeys, modest, calm, conditions, laid).
  DERIVED. THE GIVEN ROWS OF THIS SEAT. 8 by the template 'for every input the law returns true; each argument reads behind the call as it read before'; 0 by the template 'total and deterministic' (their statements: YtdbjkmciidcanaaTotals.lean).
  GIVEN WITH THE SEED: the statements are not yours to turn. If you find one false, say at which input.
  Laid BY PROGRAM, IN A SANDBOX (cutbox-rows.mjs): the forced cells as the released guide's own fill.sh prints them over the translation c6af06a4901bd0dd… (all of the seat's roots in one cut). By AI agents, Wed Nov 11 2026. No macro, syntax, notation, axiom, sorry.
-/
import Derived.Test.YtdbjkmciidcanaaChecked
import GoSem.Claim
import GoSem.ClaimJoined
import GoSem.ClaimMapViews
import Derived.JoinedTies
import Derived.KernelRfl
namespace Go.Proofs.Ytdbjkmciidcanaa
/- THE CELL 'sum', in the pinned program and in every row, IS THE sha256 OF THE DUMP (.gsa) THAT YtdbjkmciidcanaaProg.lean LOADS. Nothing in Lean hashes anything: it is a label: what it is worth is what the hold of that sum in a sandbox is worth. -/
noncomputable def Try.pinned : Pinned := { name := "ytdbjkmciidcanaa", sum := "c6af06a4901bd0ddab5fc1237aaaed51f09e4403a79fe395c50fcbc18c40c134", checked := Try.checked }
namespace Rows
def none {H : Type} : Left H := { results := [], args := [] }

/-- 'lemmatalaw17.AttrOne': WHATEVER THE INPUT: true; the input reads as it did. -/
def attrOneSpec : ChangeSpec := { name := "attrOne", fn := fun _ => fun
  | [d1, d2, d3] => { results := [.lit (.bool true)], args := [d1, d2, d3] }
  | _ => none }
def attrOneRow : OpenClaim := { program := "ytdbjkmciidcanaa", sum := "c6af06a4901bd0ddab5fc1237aaaed51f09e4403a79fe395c50fcbc18c40c134", func := "lemmata/lemmatalaw17.AttrOne", spec := "attrOne", unfollowed := true, recurses := true, plainKeys := false, apart := false }
def AttrOneSaid : Prop := attrOneRow.holds Try.pinned (OpenSpec.ofChange attrOneSpec)

/-- ITS FALSE NEIGHBOUR: 'it returns false'. Refute it at one input. -/
def attrOneWrong : ChangeSpec := { name := "attrOne", fn := fun _ => fun
  | [d1, d2, d3] => { results := [.lit (.bool false)], args := [d1, d2, d3] }
  | _ => none }
def AttrOneWrongFalsely : Prop := attrOneRow.holds Try.pinned (OpenSpec.ofChange attrOneWrong)

/-- 'lemmatalaw17.AttrForms': WHATEVER THE INPUT: true; the input reads as it did. -/
def attrFormsSpec : ChangeSpec := { name := "attrForms", fn := fun _ => fun
  | [] => { results := [.lit (.bool true)], args := [] }
  | _ => none }
def attrFormsRow : OpenClaim := { program := "ytdbjkmciidcanaa", sum := "c6af06a4901bd0ddab5fc1237aaaed51f09e4403a79fe395c50fcbc18c40c134", func := "lemmata/lemmatalaw17.AttrForms", spec := "attrForms", unfollowed := true, recurses := true, plainKeys := false, apart := false }
def AttrFormsSaid : Prop := attrFormsRow.holds Try.pinned (OpenSpec.ofChange attrFormsSpec)

/-- ITS FALSE NEIGHBOUR: 'it returns false'. Refute it at one input. -/
def attrFormsWrong : ChangeSpec := { name := "attrForms", fn := fun _ => fun
  | [] => { results := [.lit (.bool false)], args := [] }
  | _ => none }
def AttrFormsWrongFalsely : Prop := attrFormsRow.holds Try.pinned (OpenSpec.ofChange attrFormsWrong)

/-- 'lemmatalaw18.LocalGoes': WHATEVER THE INPUT: true; the input reads as it did. -/
def localGoesSpec : ChangeSpec := { name := "localGoes", fn := fun _ => fun
  | [d] => { results := [.lit (.bool true)], args := [d] }
  | _ => none }
def localGoesRow : OpenClaim := { program := "ytdbjkmciidcanaa", sum := "c6af06a4901bd0ddab5fc1237aaaed51f09e4403a79fe395c50fcbc18c40c134", func := "lemmata/lemmatalaw18.LocalGoes", spec := "localGoes", unfollowed := true, recurses := true, plainKeys := false, apart := false }
def LocalGoesSaid : Prop := localGoesRow.holds Try.pinned (OpenSpec.ofChange localGoesSpec)

/-- ITS FALSE NEIGHBOUR: 'it returns false'. Refute it at one input. -/
def localGoesWrong : ChangeSpec := { name := "localGoes", fn := fun _ => fun
  | [d] => { results := [.lit (.bool false)], args := [d] }
  | _ => none }
def LocalGoesWrongFalsely : Prop := localGoesRow.holds Try.pinned (OpenSpec.ofChange localGoesWrong)

/-- 'lemmatalaw18.LocalForms': WHATEVER THE INPUT: true; the input reads as it did. -/
def localFormsSpec : ChangeSpec := { name := "localForms", fn := fun _ => fun
  | [] => { results := [.lit (.bool true)], args := [] }
  | _ => none }
def localFormsRow : OpenClaim := { program := "ytdbjkmciidcanaa", sum := "c6af06a4901bd0ddab5fc1237aaaed51f09e4403a79fe395c50fcbc18c40c134", func := "lemmata/lemmatalaw18.LocalForms", spec := "localForms", unfollowed := true, recurses := true, plainKeys := false, apart := false }
def LocalFormsSaid : Prop := localFormsRow.holds Try.pinned (OpenSpec.ofChange localFormsSpec)

/-- ITS FALSE NEIGHBOUR: 'it returns false'. Refute it at one input. -/
def localFormsWrong : ChangeSpec := { name := "localForms", fn := fun _ => fun
  | [] => { results := [.lit (.bool false)], args := [] }
  | _ => none }
def LocalFormsWrongFalsely : Prop := localFormsRow.holds Try.pinned (OpenSpec.ofChange localFormsWrong)

/-- 'lemmatalaw18.LocalTurn': WHATEVER THE INPUT: true; the input reads as it did. -/
def localTurnSpec : ChangeSpec := { name := "localTurn", fn := fun _ => fun
  | [d1, d2, d3] => { results := [.lit (.bool true)], args := [d1, d2, d3] }
  | _ => none }
def localTurnRow : OpenClaim := { program := "ytdbjkmciidcanaa", sum := "c6af06a4901bd0ddab5fc1237aaaed51f09e4403a79fe395c50fcbc18c40c134", func := "lemmata/lemmatalaw18.LocalTurn", spec := "localTurn", unfollowed := true, recurses := true, plainKeys := false, apart := false }
def LocalTurnSaid : Prop := localTurnRow.holds Try.pinned (OpenSpec.ofChange localTurnSpec)

/-- ITS FALSE NEIGHBOUR: 'it returns false'. Refute it at one input. -/
def localTurnWrong : ChangeSpec := { name := "localTurn", fn := fun _ => fun
  | [d1, d2, d3] => { results := [.lit (.bool false)], args := [d1, d2, d3] }
  | _ => none }
def LocalTurnWrongFalsely : Prop := localTurnRow.holds Try.pinned (OpenSpec.ofChange localTurnWrong)

/-- 'lemmatalaw19.CircForms': WHATEVER THE INPUT: true; the input reads as it did. -/
def circFormsSpec : ChangeSpec := { name := "circForms", fn := fun _ => fun
  | [] => { results := [.lit (.bool true)], args := [] }
  | _ => none }
def circFormsRow : OpenClaim := { program := "ytdbjkmciidcanaa", sum := "c6af06a4901bd0ddab5fc1237aaaed51f09e4403a79fe395c50fcbc18c40c134", func := "lemmata/lemmatalaw19.CircForms", spec := "circForms", unfollowed := true, recurses := true, plainKeys := false, apart := false }
def CircFormsSaid : Prop := circFormsRow.holds Try.pinned (OpenSpec.ofChange circFormsSpec)

/-- ITS FALSE NEIGHBOUR: 'it returns false'. Refute it at one input. -/
def circFormsWrong : ChangeSpec := { name := "circForms", fn := fun _ => fun
  | [] => { results := [.lit (.bool false)], args := [] }
  | _ => none }
def CircFormsWrongFalsely : Prop := circFormsRow.holds Try.pinned (OpenSpec.ofChange circFormsWrong)

/-- 'lemmatalaw19.CircMore': WHATEVER THE INPUT: true; the input reads as it did. -/
def circMoreSpec : ChangeSpec := { name := "circMore", fn := fun _ => fun
  | [d1, d2] => { results := [.lit (.bool true)], args := [d1, d2] }
  | _ => none }
def circMoreRow : OpenClaim := { program := "ytdbjkmciidcanaa", sum := "c6af06a4901bd0ddab5fc1237aaaed51f09e4403a79fe395c50fcbc18c40c134", func := "lemmata/lemmatalaw19.CircMore", spec := "circMore", unfollowed := true, recurses := true, plainKeys := false, apart := false }
def CircMoreSaid : Prop := circMoreRow.holds Try.pinned (OpenSpec.ofChange circMoreSpec)

/-- ITS FALSE NEIGHBOUR: 'it returns false'. Refute it at one input. -/
def circMoreWrong : ChangeSpec := { name := "circMore", fn := fun _ => fun
  | [d1, d2] => { results := [.lit (.bool false)], args := [d1, d2] }
  | _ => none }
def CircMoreWrongFalsely : Prop := circMoreRow.holds Try.pinned (OpenSpec.ofChange circMoreWrong)

/-- 'lemmatalaw19.CircFree': WHATEVER THE INPUT: true; the input reads as it did. -/
def circFreeSpec : ChangeSpec := { name := "circFree", fn := fun _ => fun
  | [d] => { results := [.lit (.bool true)], args := [d] }
  | _ => none }
def circFreeRow : OpenClaim := { program := "ytdbjkmciidcanaa", sum := "c6af06a4901bd0ddab5fc1237aaaed51f09e4403a79fe395c50fcbc18c40c134", func := "lemmata/lemmatalaw19.CircFree", spec := "circFree", unfollowed := true, recurses := true, plainKeys := false, apart := false }
def CircFreeSaid : Prop := circFreeRow.holds Try.pinned (OpenSpec.ofChange circFreeSpec)

/-- ITS FALSE NEIGHBOUR: 'it returns false'. Refute it at one input. -/
def circFreeWrong : ChangeSpec := { name := "circFree", fn := fun _ => fun
  | [d] => { results := [.lit (.bool false)], args := [d] }
  | _ => none }
def CircFreeWrongFalsely : Prop := circFreeRow.holds Try.pinned (OpenSpec.ofChange circFreeWrong)

/- THE SECOND FORM. 'bulk': how many values and letters a reading holds, each counted each time it is reached (what is shared counts as often as it is met; a slice's spare places count too). A statement '..UptoSaid' is the law's where the arguments, and the package variables that the reading takes, are together of bulk at most 1048576: NARROWER than '..Said'. Prove '..Said' where nothing that the law and all that it calls make is longer than what came in: it says more and counts as full. Else prove '..UptoSaid'. A law counts once. -/
mutual
def uptoBulk {H : Type} : DataW H → Nat
  | .lit (.string bytes) => bytes.length + 1
  | .lit _ => 1
  | .nil => 1
  | .ptr d => uptoBulk d + 1
  | .slice elems spare => uptoBulkAll elems + uptoBulkAll spare + 1
  | .agg parts => uptoBulkAll parts + 1
  | .iface _ d => uptoBulk d + 1
  | .map entries => uptoBulkEntries entries + 1
  | .held _ => 1
def uptoBulkAll {H : Type} : List (DataW H) → Nat
  | [] => 0
  | d :: r => uptoBulk d + uptoBulkAll r
def uptoBulkEntries {H : Type} : List (Lit × DataW H) → Nat
  | [] => 0
  | x :: r => uptoBulkEntry x + uptoBulkEntries r
def uptoBulkEntry {H : Type} : Lit × DataW H → Nat
  | (.string bytes, d) => bytes.length + uptoBulk d + 1
  | (_, d) => uptoBulk d + 1
 end
def uptoSmall : (H : Type) → List (DataW H) → Bool := fun _ ds => decide (uptoBulkAll ds ≤ 1048576)
def OpenSpec.upto (s : _root_.Go.ChangeSpec) : _root_.Go.OpenSpec := { _root_.Go.OpenSpec.ofChange s with cond := some uptoSmall }

/-- 'lemmatalaw17.AttrOne', WHERE WHAT IT READS IS OF BULK AT MOST 1048576: true; the input reads as it did. -/
def attrOneUptoRow : OpenClaim := { program := "ytdbjkmciidcanaa", sum := "c6af06a4901bd0ddab5fc1237aaaed51f09e4403a79fe395c50fcbc18c40c134", func := "lemmata/lemmatalaw17.AttrOne", spec := "attrOne", unfollowed := true, recurses := true, plainKeys := false, apart := false, narrowed := true }
def AttrOneUptoSaid : Prop := attrOneUptoRow.holds Try.pinned (OpenSpec.upto attrOneSpec)

/-- 'lemmatalaw17.AttrForms', WHERE WHAT IT READS IS OF BULK AT MOST 1048576: true; the input reads as it did. -/
def attrFormsUptoRow : OpenClaim := { program := "ytdbjkmciidcanaa", sum := "c6af06a4901bd0ddab5fc1237aaaed51f09e4403a79fe395c50fcbc18c40c134", func := "lemmata/lemmatalaw17.AttrForms", spec := "attrForms", unfollowed := true, recurses := true, plainKeys := false, apart := false, narrowed := true }
def AttrFormsUptoSaid : Prop := attrFormsUptoRow.holds Try.pinned (OpenSpec.upto attrFormsSpec)

/-- 'lemmatalaw18.LocalGoes', WHERE WHAT IT READS IS OF BULK AT MOST 1048576: true; the input reads as it did. -/
def localGoesUptoRow : OpenClaim := { program := "ytdbjkmciidcanaa", sum := "c6af06a4901bd0ddab5fc1237aaaed51f09e4403a79fe395c50fcbc18c40c134", func := "lemmata/lemmatalaw18.LocalGoes", spec := "localGoes", unfollowed := true, recurses := true, plainKeys := false, apart := false, narrowed := true }
def LocalGoesUptoSaid : Prop := localGoesUptoRow.holds Try.pinned (OpenSpec.upto localGoesSpec)

/-- 'lemmatalaw18.LocalForms', WHERE WHAT IT READS IS OF BULK AT MOST 1048576: true; the input reads as it did. -/
def localFormsUptoRow : OpenClaim := { program := "ytdbjkmciidcanaa", sum := "c6af06a4901bd0ddab5fc1237aaaed51f09e4403a79fe395c50fcbc18c40c134", func := "lemmata/lemmatalaw18.LocalForms", spec := "localForms", unfollowed := true, recurses := true, plainKeys := false, apart := false, narrowed := true }
def LocalFormsUptoSaid : Prop := localFormsUptoRow.holds Try.pinned (OpenSpec.upto localFormsSpec)

/-- 'lemmatalaw18.LocalTurn', WHERE WHAT IT READS IS OF BULK AT MOST 1048576: true; the input reads as it did. -/
def localTurnUptoRow : OpenClaim := { program := "ytdbjkmciidcanaa", sum := "c6af06a4901bd0ddab5fc1237aaaed51f09e4403a79fe395c50fcbc18c40c134", func := "lemmata/lemmatalaw18.LocalTurn", spec := "localTurn", unfollowed := true, recurses := true, plainKeys := false, apart := false, narrowed := true }
def LocalTurnUptoSaid : Prop := localTurnUptoRow.holds Try.pinned (OpenSpec.upto localTurnSpec)

/-- 'lemmatalaw19.CircForms', WHERE WHAT IT READS IS OF BULK AT MOST 1048576: true; the input reads as it did. -/
def circFormsUptoRow : OpenClaim := { program := "ytdbjkmciidcanaa", sum := "c6af06a4901bd0ddab5fc1237aaaed51f09e4403a79fe395c50fcbc18c40c134", func := "lemmata/lemmatalaw19.CircForms", spec := "circForms", unfollowed := true, recurses := true, plainKeys := false, apart := false, narrowed := true }
def CircFormsUptoSaid : Prop := circFormsUptoRow.holds Try.pinned (OpenSpec.upto circFormsSpec)

/-- 'lemmatalaw19.CircMore', WHERE WHAT IT READS IS OF BULK AT MOST 1048576: true; the input reads as it did. -/
def circMoreUptoRow : OpenClaim := { program := "ytdbjkmciidcanaa", sum := "c6af06a4901bd0ddab5fc1237aaaed51f09e4403a79fe395c50fcbc18c40c134", func := "lemmata/lemmatalaw19.CircMore", spec := "circMore", unfollowed := true, recurses := true, plainKeys := false, apart := false, narrowed := true }
def CircMoreUptoSaid : Prop := circMoreUptoRow.holds Try.pinned (OpenSpec.upto circMoreSpec)

/-- 'lemmatalaw19.CircFree', WHERE WHAT IT READS IS OF BULK AT MOST 1048576: true; the input reads as it did. -/
def circFreeUptoRow : OpenClaim := { program := "ytdbjkmciidcanaa", sum := "c6af06a4901bd0ddab5fc1237aaaed51f09e4403a79fe395c50fcbc18c40c134", func := "lemmata/lemmatalaw19.CircFree", spec := "circFree", unfollowed := true, recurses := true, plainKeys := false, apart := false, narrowed := true }
def CircFreeUptoSaid : Prop := circFreeUptoRow.holds Try.pinned (OpenSpec.upto circFreeSpec)

end Rows
end Go.Proofs.Ytdbjkmciidcanaa
