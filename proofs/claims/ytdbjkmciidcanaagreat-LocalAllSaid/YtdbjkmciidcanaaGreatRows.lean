/-
  NARROWER THAN 'FOR EVERY INPUT', by the rows' own cells (each row's printed sentence says how): AttrAll: loops.
  DERIVED. THE GIVEN ROWS OF THIS SEAT. 4 by the template 'for every input the law returns true; each argument reads behind the call as it read before'; 0 by the template 'total and deterministic' (their statements: YtdbjkmciidcanaaGreatTotals.lean).
  GIVEN WITH THE SEED: the statements are not yours to turn. If you find one false, say at which input.
  Laid BY PROGRAM, IN A SANDBOX (cutbox-rows.mjs): the forced cells as the released guide's own fill.sh prints them over the translation cf67be91d016a3fa… (all of the seat's roots in one cut). By AI agents, Wed Nov 11 2026. No macro, syntax, notation, axiom, sorry.
-/
import Derived.Test.YtdbjkmciidcanaaGreatChecked
import GoSem.Claim
import GoSem.ClaimJoined
import GoSem.ClaimMapViews
import Derived.JoinedTies
import Derived.KernelRfl
namespace Go.Proofs.YtdbjkmciidcanaaGreat
/- THE CELL 'sum', in the pinned program and in every row, IS THE sha256 OF THE DUMP (.gsa) THAT YtdbjkmciidcanaaGreatProg.lean LOADS. Nothing in Lean hashes anything: it is a label: what it is worth is what the hold of that sum in a sandbox is worth. -/
noncomputable def Tryz.pinned : Pinned := { name := "ytdbjkmciidcanaagreat", sum := "cf67be91d016a3fa9972c233dff7bf48de2c20756d175fd5d9fcccde2e6abb25", checked := Tryz.checked }
namespace Rows
def none {H : Type} : Left H := { results := [], args := [] }

/-- 'lemmatalaw17.AttrAll': WHATEVER THE INPUT: true; the input reads as it did. -/
def attrAllSpec : ChangeSpec := { name := "attrAll", fn := fun _ => fun
  | [d1, d2, d3, d4, d5] => { results := [.lit (.bool true)], args := [d1, d2, d3, d4, d5] }
  | _ => none }
def attrAllRow : OpenClaim := { program := "ytdbjkmciidcanaagreat", sum := "cf67be91d016a3fa9972c233dff7bf48de2c20756d175fd5d9fcccde2e6abb25", func := "lemmata/lemmatalaw17.AttrAll", spec := "attrAll", unfollowed := true, recurses := true, loops := true, plainKeys := false, apart := false }
def AttrAllSaid : Prop := attrAllRow.holds Tryz.pinned (OpenSpec.ofChange attrAllSpec)

/-- ITS FALSE NEIGHBOUR: 'it returns false'. Refute it at one input. -/
def attrAllWrong : ChangeSpec := { name := "attrAll", fn := fun _ => fun
  | [d1, d2, d3, d4, d5] => { results := [.lit (.bool false)], args := [d1, d2, d3, d4, d5] }
  | _ => none }
def AttrAllWrongFalsely : Prop := attrAllRow.holds Tryz.pinned (OpenSpec.ofChange attrAllWrong)

/-- 'lemmatalaw18.LocalAll': WHATEVER THE INPUT: true; the input reads as it did. -/
def localAllSpec : ChangeSpec := { name := "localAll", fn := fun _ => fun
  | [d1, d2, d3] => { results := [.lit (.bool true)], args := [d1, d2, d3] }
  | _ => none }
def localAllRow : OpenClaim := { program := "ytdbjkmciidcanaagreat", sum := "cf67be91d016a3fa9972c233dff7bf48de2c20756d175fd5d9fcccde2e6abb25", func := "lemmata/lemmatalaw18.LocalAll", spec := "localAll", unfollowed := true, recurses := true, plainKeys := false, apart := false }
def LocalAllSaid : Prop := localAllRow.holds Tryz.pinned (OpenSpec.ofChange localAllSpec)

/-- ITS FALSE NEIGHBOUR: 'it returns false'. Refute it at one input. -/
def localAllWrong : ChangeSpec := { name := "localAll", fn := fun _ => fun
  | [d1, d2, d3] => { results := [.lit (.bool false)], args := [d1, d2, d3] }
  | _ => none }
def LocalAllWrongFalsely : Prop := localAllRow.holds Tryz.pinned (OpenSpec.ofChange localAllWrong)

/-- 'lemmatalaw19.CircAll': WHATEVER THE INPUT: true; the input reads as it did. -/
def circAllSpec : ChangeSpec := { name := "circAll", fn := fun _ => fun
  | [d1, d2] => { results := [.lit (.bool true)], args := [d1, d2] }
  | _ => none }
def circAllRow : OpenClaim := { program := "ytdbjkmciidcanaagreat", sum := "cf67be91d016a3fa9972c233dff7bf48de2c20756d175fd5d9fcccde2e6abb25", func := "lemmata/lemmatalaw19.CircAll", spec := "circAll", unfollowed := true, recurses := true, plainKeys := false, apart := false }
def CircAllSaid : Prop := circAllRow.holds Tryz.pinned (OpenSpec.ofChange circAllSpec)

/-- ITS FALSE NEIGHBOUR: 'it returns false'. Refute it at one input. -/
def circAllWrong : ChangeSpec := { name := "circAll", fn := fun _ => fun
  | [d1, d2] => { results := [.lit (.bool false)], args := [d1, d2] }
  | _ => none }
def CircAllWrongFalsely : Prop := circAllRow.holds Tryz.pinned (OpenSpec.ofChange circAllWrong)

/-- 'lemmatalaw19.CircTrees': WHATEVER THE INPUT: true; the input reads as it did. -/
def circTreesSpec : ChangeSpec := { name := "circTrees", fn := fun _ => fun
  | [d1, d2] => { results := [.lit (.bool true)], args := [d1, d2] }
  | _ => none }
def circTreesRow : OpenClaim := { program := "ytdbjkmciidcanaagreat", sum := "cf67be91d016a3fa9972c233dff7bf48de2c20756d175fd5d9fcccde2e6abb25", func := "lemmata/lemmatalaw19.CircTrees", spec := "circTrees", unfollowed := true, recurses := true, plainKeys := false, apart := false }
def CircTreesSaid : Prop := circTreesRow.holds Tryz.pinned (OpenSpec.ofChange circTreesSpec)

/-- ITS FALSE NEIGHBOUR: 'it returns false'. Refute it at one input. -/
def circTreesWrong : ChangeSpec := { name := "circTrees", fn := fun _ => fun
  | [d1, d2] => { results := [.lit (.bool false)], args := [d1, d2] }
  | _ => none }
def CircTreesWrongFalsely : Prop := circTreesRow.holds Tryz.pinned (OpenSpec.ofChange circTreesWrong)

/- THE SECOND FORM. 'bulk': how many values and letters a reading holds, each counted each time it is reached (what is shared counts as often as it is met; a slice's spare places count too). A statement '..UptoSaid' is the law's where the arguments, and the package variables that the reading takes, are together of bulk at most 1048576: NARROWER than '..Said'. Prove '..Said' where nothing that the law and all that it calls make is longer than what came in: it says more and counts as full. Else prove '..UptoSaid'. A law counts once. -/
mutual
def uptoBulk {H : Type} : DataW H → Nat
  | .lit (.string bytes) => bytes.length + 1
  | .lit _ => 1
  | .nil => 1
  | .ptr d => uptoBulk d + 1
  | .slice elems spare => uptoBulkAll elems + uptoBulkAll spare + 1
  | .agg parts => uptoBulkAll parts + 1
  | .iface _ d => uptoBulk d + 1
  | .map entries => uptoBulkEntries entries + 1
  | .held _ => 1
def uptoBulkAll {H : Type} : List (DataW H) → Nat
  | [] => 0
  | d :: r => uptoBulk d + uptoBulkAll r
def uptoBulkEntries {H : Type} : List (Lit × DataW H) → Nat
  | [] => 0
  | x :: r => uptoBulkEntry x + uptoBulkEntries r
def uptoBulkEntry {H : Type} : Lit × DataW H → Nat
  | (.string bytes, d) => bytes.length + uptoBulk d + 1
  | (_, d) => uptoBulk d + 1
 end
def uptoSmall : (H : Type) → List (DataW H) → Bool := fun _ ds => decide (uptoBulkAll ds ≤ 1048576)
def OpenSpec.upto (s : _root_.Go.ChangeSpec) : _root_.Go.OpenSpec := { _root_.Go.OpenSpec.ofChange s with cond := some uptoSmall }

/-- 'lemmatalaw17.AttrAll', WHERE WHAT IT READS IS OF BULK AT MOST 1048576: true; the input reads as it did. -/
def attrAllUptoRow : OpenClaim := { program := "ytdbjkmciidcanaagreat", sum := "cf67be91d016a3fa9972c233dff7bf48de2c20756d175fd5d9fcccde2e6abb25", func := "lemmata/lemmatalaw17.AttrAll", spec := "attrAll", unfollowed := true, recurses := true, loops := true, plainKeys := false, apart := false, narrowed := true }
def AttrAllUptoSaid : Prop := attrAllUptoRow.holds Tryz.pinned (OpenSpec.upto attrAllSpec)

/-- 'lemmatalaw18.LocalAll', WHERE WHAT IT READS IS OF BULK AT MOST 1048576: true; the input reads as it did. -/
def localAllUptoRow : OpenClaim := { program := "ytdbjkmciidcanaagreat", sum := "cf67be91d016a3fa9972c233dff7bf48de2c20756d175fd5d9fcccde2e6abb25", func := "lemmata/lemmatalaw18.LocalAll", spec := "localAll", unfollowed := true, recurses := true, plainKeys := false, apart := false, narrowed := true }
def LocalAllUptoSaid : Prop := localAllUptoRow.holds Tryz.pinned (OpenSpec.upto localAllSpec)

/-- 'lemmatalaw19.CircAll', WHERE WHAT IT READS IS OF BULK AT MOST 1048576: true; the input reads as it did. -/
def circAllUptoRow : OpenClaim := { program := "ytdbjkmciidcanaagreat", sum := "cf67be91d016a3fa9972c233dff7bf48de2c20756d175fd5d9fcccde2e6abb25", func := "lemmata/lemmatalaw19.CircAll", spec := "circAll", unfollowed := true, recurses := true, plainKeys := false, apart := false, narrowed := true }
def CircAllUptoSaid : Prop := circAllUptoRow.holds Tryz.pinned (OpenSpec.upto circAllSpec)

/-- 'lemmatalaw19.CircTrees', WHERE WHAT IT READS IS OF BULK AT MOST 1048576: true; the input reads as it did. -/
def circTreesUptoRow : OpenClaim := { program := "ytdbjkmciidcanaagreat", sum := "cf67be91d016a3fa9972c233dff7bf48de2c20756d175fd5d9fcccde2e6abb25", func := "lemmata/lemmatalaw19.CircTrees", spec := "circTrees", unfollowed := true, recurses := true, plainKeys := false, apart := false, narrowed := true }
def CircTreesUptoSaid : Prop := circTreesUptoRow.holds Tryz.pinned (OpenSpec.upto circTreesSpec)

end Rows
end Go.Proofs.YtdbjkmciidcanaaGreat
