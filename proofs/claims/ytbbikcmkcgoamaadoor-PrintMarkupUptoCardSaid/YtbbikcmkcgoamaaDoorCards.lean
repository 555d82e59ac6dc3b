/-
  DERIVED. GIVEN WITH THE SEED: THE CARDS: each row of YtbbikcmkcgoamaaDoorRows.lean that lists a variable, with what it lists TIED to the program's text (the seventh form; the later family's looks); each row that meets fmt, with fmt's text TOLD by the authors' own Lean function (tested against real Go, not proved from fmt's source: count such statements apart). THE CARD IS WHAT COUNTS. Prove the row's statement (the work); the ties are given (YtbbikcmkcgoamaaDoorTie.lean); close each card by the builder's one call (the guide's Derived/Test/ToyasCard.lean, 'card_holds'). Laid BY PROGRAM, IN A SANDBOX (cutbox-door.mjs). By AI agents, Wed Nov 11 2026. No macro, syntax, notation, axiom, sorry.
-/
import Derived.Test.YtbbikcmkcgoamaaDoorRows
import GoSem.ClaimSeven
namespace Go.Proofs.YtbbikcmkcgoamaaDoor
namespace Rows

/-- THE TIED CARD OF 'quillworklaw16.PrintMarkup'. -/
def printMarkupCard : Claim7 := { stood := { row := printMarkupRow, standIns := [], harness := (true, "45f92ed5b91cc679053afeec6b27a423995c8d4ca9b084308652e56950230faa"), looks := false }, kinds := [], alts := [], laidByText := true, laidKinds := [.data, .pinned], laidTests := true, laidLooks := .later }
def PrintMarkupCardSaid : Prop := Claim7.holds Tryd.pinned (.plain (OpenSpec.ofChange printMarkupSpec)) printMarkupCard

/-- THE TIED CARD OF 'quillworklaw16.PrintParts'. -/
def printPartsCard : Claim7 := { stood := { row := printPartsRow, standIns := [], harness := (true, "45f92ed5b91cc679053afeec6b27a423995c8d4ca9b084308652e56950230faa"), looks := false }, kinds := [], alts := [], laidByText := true, laidKinds := [.data, .pinned], laidTests := true, laidLooks := .later }
def PrintPartsCardSaid : Prop := Claim7.holds Tryd.pinned (.plain (OpenSpec.ofChange printPartsSpec)) printPartsCard

/-- THE SECOND FORM's CARD OF 'quillworklaw16.PrintMarkup'. -/
def printMarkupUptoCard : Claim7 := { stood := { row := printMarkupUptoRow, standIns := [], harness := (true, "45f92ed5b91cc679053afeec6b27a423995c8d4ca9b084308652e56950230faa"), looks := false }, kinds := [], alts := [], laidByText := true, laidKinds := [.data, .pinned], laidTests := true, laidLooks := .later }
def PrintMarkupUptoCardSaid : Prop := Claim7.holds Tryd.pinned (.plain (OpenSpec.upto printMarkupSpec)) printMarkupUptoCard

/-- THE SECOND FORM's CARD OF 'quillworklaw16.PrintParts'. -/
def printPartsUptoCard : Claim7 := { stood := { row := printPartsUptoRow, standIns := [], harness := (true, "45f92ed5b91cc679053afeec6b27a423995c8d4ca9b084308652e56950230faa"), looks := false }, kinds := [], alts := [], laidByText := true, laidKinds := [.data, .pinned], laidTests := true, laidLooks := .later }
def PrintPartsUptoCardSaid : Prop := Claim7.holds Tryd.pinned (.plain (OpenSpec.upto printPartsSpec)) printPartsUptoCard
end Rows
end Go.Proofs.YtbbikcmkcgoamaaDoor
