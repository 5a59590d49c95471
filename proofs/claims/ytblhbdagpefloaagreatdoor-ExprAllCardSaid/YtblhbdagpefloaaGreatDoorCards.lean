/-
  DERIVED. GIVEN WITH THE SEED: THE CARDS: each row of YtblhbdagpefloaaGreatDoorRows.lean that lists a variable, with what it lists TIED to the program's text (the seventh form; the later family's looks); each row that meets fmt, with fmt's text TOLD by the authors' own Lean function (tested against real Go, not proved from fmt's source: count such statements apart). THE CARD IS WHAT COUNTS. Prove the row's statement (the work); the ties are given (YtblhbdagpefloaaGreatDoorTie.lean); close each card by the builder's one call (the guide's Derived/Test/ToyasCard.lean, 'card_holds'). Laid BY PROGRAM, IN A SANDBOX (cutbox-door.mjs). By AI agents, Wed Nov 11 2026. No macro, syntax, notation, axiom, sorry.
-/
import Derived.Test.YtblhbdagpefloaaGreatDoorRows
import GoSem.ClaimSeven
namespace Go.Proofs.YtblhbdagpefloaaGreatDoor
namespace Rows

/-- THE TIED CARD OF 'lemmatalaw2.ExprAll'. -/
def exprAllCard : Claim7 := { stood := { row := exprAllRow, standIns := [], harness := (true, "ae98bc1570db43af499dffc061f3323498f5040cc66b5df0025da4720f91f6c8"), looks := true }, kinds := [], alts := [], laidByText := true, laidKinds := [.data, .data, .data, .data, .sentinel, .sentinel, .pinned], laidTests := true, laidLooks := .later }
def ExprAllCardSaid : Prop := Claim7.holds Tryz.pinned (.plain (OpenSpec.ofChange exprAllSpec)) exprAllCard

/-- THE TIED CARD OF 'lemmatalaw2.ExprTotal'. -/
def exprTotalCard : Claim7 := { stood := { row := exprTotalRow, standIns := [], harness := (true, "ae98bc1570db43af499dffc061f3323498f5040cc66b5df0025da4720f91f6c8"), looks := true }, kinds := [], alts := [], laidByText := true, laidKinds := [.data, .data, .data, .data, .sentinel, .sentinel, .pinned], laidTests := true, laidLooks := .later }
def ExprTotalCardSaid : Prop := Claim7.holds Tryz.pinned (.plain (OpenSpec.ofChange exprTotalSpec)) exprTotalCard

/-- THE TIED CARD OF 'lemmatalaw2.ExprRefs'. -/
def exprRefsCard : Claim7 := { stood := { row := exprRefsRow, standIns := [], harness := (true, "ae98bc1570db43af499dffc061f3323498f5040cc66b5df0025da4720f91f6c8"), looks := true }, kinds := [], alts := [], laidByText := true, laidKinds := [.data, .data, .data, .data, .sentinel, .sentinel, .pinned], laidTests := true, laidLooks := .later }
def ExprRefsCardSaid : Prop := Claim7.holds Tryz.pinned (.plain (OpenSpec.ofChange exprRefsSpec)) exprRefsCard

/-- THE TIED CARD OF 'lemmatalaw2.ExprForms'. -/
def exprFormsCard : Claim7 := { stood := { row := exprFormsRow, standIns := [], harness := (true, "ae98bc1570db43af499dffc061f3323498f5040cc66b5df0025da4720f91f6c8"), looks := true }, kinds := [], alts := [], laidByText := true, laidKinds := [.data, .data, .data, .data, .sentinel, .sentinel, .pinned], laidTests := true, laidLooks := .later }
def ExprFormsCardSaid : Prop := Claim7.holds Tryz.pinned (.plain (OpenSpec.ofChange exprFormsSpec)) exprFormsCard

/-- THE TIED CARD OF 'lemmatalaw2.ExprSize'. -/
def exprSizeCard : Claim7 := { stood := { row := exprSizeRow, standIns := [], harness := (true, "ae98bc1570db43af499dffc061f3323498f5040cc66b5df0025da4720f91f6c8"), looks := true }, kinds := [], alts := [], laidByText := true, laidKinds := [.data, .data, .data, .data, .sentinel, .sentinel, .pinned], laidTests := true, laidLooks := .later }
def ExprSizeCardSaid : Prop := Claim7.holds Tryz.pinned (.plain (OpenSpec.ofChange exprSizeSpec)) exprSizeCard

/-- THE TIED CARD OF 'lemmatalaw2.ExprMay'. -/
def exprMayCard : Claim7 := { stood := { row := exprMayRow, standIns := [], harness := (true, "ae98bc1570db43af499dffc061f3323498f5040cc66b5df0025da4720f91f6c8"), looks := true }, kinds := [], alts := [], laidByText := true, laidKinds := [.data, .data, .data, .data, .sentinel, .sentinel, .pinned], laidTests := true, laidLooks := .later }
def ExprMayCardSaid : Prop := Claim7.holds Tryz.pinned (.plain (OpenSpec.ofChange exprMaySpec)) exprMayCard

/-- THE TIED CARD OF 'lemmatalaw2.ExprMaps'. -/
def exprMapsCard : Claim7 := { stood := { row := exprMapsRow, standIns := [], harness := (true, "ae98bc1570db43af499dffc061f3323498f5040cc66b5df0025da4720f91f6c8"), looks := true }, kinds := [], alts := [], laidByText := true, laidKinds := [.data, .data, .data, .data, .sentinel, .sentinel, .pinned], laidTests := true, laidLooks := .later }
def ExprMapsCardSaid : Prop := Claim7.holds Tryz.pinned (.plain (OpenSpec.ofChange exprMapsSpec)) exprMapsCard

/-- THE TIED CARD OF 'lemmatalaw2.ExprSums'. -/
def exprSumsCard : Claim7 := { stood := { row := exprSumsRow, standIns := [], harness := (true, "ae98bc1570db43af499dffc061f3323498f5040cc66b5df0025da4720f91f6c8"), looks := true }, kinds := [], alts := [], laidByText := true, laidKinds := [.data, .data, .data, .data, .sentinel, .sentinel, .pinned], laidTests := true, laidLooks := .later }
def ExprSumsCardSaid : Prop := Claim7.holds Tryz.pinned (.plain (OpenSpec.ofChange exprSumsSpec)) exprSumsCard

/-- THE TIED CARD OF 'lemmatalaw2.ExprChoice'. -/
def exprChoiceCard : Claim7 := { stood := { row := exprChoiceRow, standIns := [], harness := (true, "ae98bc1570db43af499dffc061f3323498f5040cc66b5df0025da4720f91f6c8"), looks := true }, kinds := [], alts := [], laidByText := true, laidKinds := [.data, .data, .data, .data, .sentinel, .sentinel, .pinned], laidTests := true, laidLooks := .later }
def ExprChoiceCardSaid : Prop := Claim7.holds Tryz.pinned (.plain (OpenSpec.ofChange exprChoiceSpec)) exprChoiceCard

/-- THE SECOND FORM's CARD OF 'lemmatalaw2.ExprAll'. -/
def exprAllUptoCard : Claim7 := { stood := { row := exprAllUptoRow, standIns := [], harness := (true, "ae98bc1570db43af499dffc061f3323498f5040cc66b5df0025da4720f91f6c8"), looks := true }, kinds := [], alts := [], laidByText := true, laidKinds := [.data, .data, .data, .data, .sentinel, .sentinel, .pinned], laidTests := true, laidLooks := .later }
def ExprAllUptoCardSaid : Prop := Claim7.holds Tryz.pinned (.plain (OpenSpec.upto exprAllSpec)) exprAllUptoCard

/-- THE SECOND FORM's CARD OF 'lemmatalaw2.ExprTotal'. -/
def exprTotalUptoCard : Claim7 := { stood := { row := exprTotalUptoRow, standIns := [], harness := (true, "ae98bc1570db43af499dffc061f3323498f5040cc66b5df0025da4720f91f6c8"), looks := true }, kinds := [], alts := [], laidByText := true, laidKinds := [.data, .data, .data, .data, .sentinel, .sentinel, .pinned], laidTests := true, laidLooks := .later }
def ExprTotalUptoCardSaid : Prop := Claim7.holds Tryz.pinned (.plain (OpenSpec.upto exprTotalSpec)) exprTotalUptoCard

/-- THE SECOND FORM's CARD OF 'lemmatalaw2.ExprRefs'. -/
def exprRefsUptoCard : Claim7 := { stood := { row := exprRefsUptoRow, standIns := [], harness := (true, "ae98bc1570db43af499dffc061f3323498f5040cc66b5df0025da4720f91f6c8"), looks := true }, kinds := [], alts := [], laidByText := true, laidKinds := [.data, .data, .data, .data, .sentinel, .sentinel, .pinned], laidTests := true, laidLooks := .later }
def ExprRefsUptoCardSaid : Prop := Claim7.holds Tryz.pinned (.plain (OpenSpec.upto exprRefsSpec)) exprRefsUptoCard

/-- THE SECOND FORM's CARD OF 'lemmatalaw2.ExprForms'. -/
def exprFormsUptoCard : Claim7 := { stood := { row := exprFormsUptoRow, standIns := [], harness := (true, "ae98bc1570db43af499dffc061f3323498f5040cc66b5df0025da4720f91f6c8"), looks := true }, kinds := [], alts := [], laidByText := true, laidKinds := [.data, .data, .data, .data, .sentinel, .sentinel, .pinned], laidTests := true, laidLooks := .later }
def ExprFormsUptoCardSaid : Prop := Claim7.holds Tryz.pinned (.plain (OpenSpec.upto exprFormsSpec)) exprFormsUptoCard

/-- THE SECOND FORM's CARD OF 'lemmatalaw2.ExprSize'. -/
def exprSizeUptoCard : Claim7 := { stood := { row := exprSizeUptoRow, standIns := [], harness := (true, "ae98bc1570db43af499dffc061f3323498f5040cc66b5df0025da4720f91f6c8"), looks := true }, kinds := [], alts := [], laidByText := true, laidKinds := [.data, .data, .data, .data, .sentinel, .sentinel, .pinned], laidTests := true, laidLooks := .later }
def ExprSizeUptoCardSaid : Prop := Claim7.holds Tryz.pinned (.plain (OpenSpec.upto exprSizeSpec)) exprSizeUptoCard

/-- THE SECOND FORM's CARD OF 'lemmatalaw2.ExprMay'. -/
def exprMayUptoCard : Claim7 := { stood := { row := exprMayUptoRow, standIns := [], harness := (true, "ae98bc1570db43af499dffc061f3323498f5040cc66b5df0025da4720f91f6c8"), looks := true }, kinds := [], alts := [], laidByText := true, laidKinds := [.data, .data, .data, .data, .sentinel, .sentinel, .pinned], laidTests := true, laidLooks := .later }
def ExprMayUptoCardSaid : Prop := Claim7.holds Tryz.pinned (.plain (OpenSpec.upto exprMaySpec)) exprMayUptoCard

/-- THE SECOND FORM's CARD OF 'lemmatalaw2.ExprMaps'. -/
def exprMapsUptoCard : Claim7 := { stood := { row := exprMapsUptoRow, standIns := [], harness := (true, "ae98bc1570db43af499dffc061f3323498f5040cc66b5df0025da4720f91f6c8"), looks := true }, kinds := [], alts := [], laidByText := true, laidKinds := [.data, .data, .data, .data, .sentinel, .sentinel, .pinned], laidTests := true, laidLooks := .later }
def ExprMapsUptoCardSaid : Prop := Claim7.holds Tryz.pinned (.plain (OpenSpec.upto exprMapsSpec)) exprMapsUptoCard

/-- THE SECOND FORM's CARD OF 'lemmatalaw2.ExprSums'. -/
def exprSumsUptoCard : Claim7 := { stood := { row := exprSumsUptoRow, standIns := [], harness := (true, "ae98bc1570db43af499dffc061f3323498f5040cc66b5df0025da4720f91f6c8"), looks := true }, kinds := [], alts := [], laidByText := true, laidKinds := [.data, .data, .data, .data, .sentinel, .sentinel, .pinned], laidTests := true, laidLooks := .later }
def ExprSumsUptoCardSaid : Prop := Claim7.holds Tryz.pinned (.plain (OpenSpec.upto exprSumsSpec)) exprSumsUptoCard

/-- THE SECOND FORM's CARD OF 'lemmatalaw2.ExprChoice'. -/
def exprChoiceUptoCard : Claim7 := { stood := { row := exprChoiceUptoRow, standIns := [], harness := (true, "ae98bc1570db43af499dffc061f3323498f5040cc66b5df0025da4720f91f6c8"), looks := true }, kinds := [], alts := [], laidByText := true, laidKinds := [.data, .data, .data, .data, .sentinel, .sentinel, .pinned], laidTests := true, laidLooks := .later }
def ExprChoiceUptoCardSaid : Prop := Claim7.holds Tryz.pinned (.plain (OpenSpec.upto exprChoiceSpec)) exprChoiceUptoCard
end Rows
end Go.Proofs.YtblhbdagpefloaaGreatDoor
