/-
  DERIVED. GIVEN WITH THE SEED: THE CARDS: each row of YtocjfdpknfnamaaDoorRows.lean that lists a variable, with what it lists TIED to the program's text (the seventh form; the later family's looks); each row that meets fmt, with fmt's text TOLD by the authors' own Lean function (tested against real Go, not proved from fmt's source: count such statements apart). THE CARD IS WHAT COUNTS. Prove the row's statement (the work); the ties are given (YtocjfdpknfnamaaDoorTie.lean); close each card by the builder's one call (the guide's Derived/Test/ToyasCard.lean, 'card_holds'). Laid BY PROGRAM, IN A SANDBOX (cutbox-door.mjs). By AI agents, Wed Nov 11 2026. No macro, syntax, notation, axiom, sorry.
-/
import Derived.Test.YtocjfdpknfnamaaDoorRows
import GoSem.ClaimSeven
namespace Go.Proofs.YtocjfdpknfnamaaDoor
namespace Rows

/-- THE TIED CARD OF 'ferrulelaw04.ShowTypes'. -/
def showTypesCard : Claim7 := { stood := { row := showTypesRow, standIns := [], harness := (true, "a80e3c7a991306e56f2d4bfeda0baa61953363c1d4a915f6cdf2292b3756f330"), looks := false }, kinds := [], alts := [], laidByText := true, laidKinds := [.data, .data, .data], laidTests := true, laidLooks := .later }
def ShowTypesCardSaid : Prop := Claim7.holds Tryd.pinned (.plain (OpenSpec.ofChange showTypesSpec)) showTypesCard

/-- THE TIED CARD OF 'ferrulelaw28.ReportPlaces'. -/
def reportPlacesCard : Claim7 := { stood := { row := reportPlacesRow, standIns := [], harness := (true, "a80e3c7a991306e56f2d4bfeda0baa61953363c1d4a915f6cdf2292b3756f330"), looks := false }, kinds := [], alts := [], laidByText := true, laidKinds := [.data, .data, .data], laidTests := true, laidLooks := .later }
def ReportPlacesCardSaid : Prop := Claim7.holds Tryd.pinned (.plain (OpenSpec.ofChange reportPlacesSpec)) reportPlacesCard

/-- THE TIED CARD OF 'ferrulelaw28.ReportLines'. -/
def reportLinesCard : Claim7 := { stood := { row := reportLinesRow, standIns := [], harness := (true, "a80e3c7a991306e56f2d4bfeda0baa61953363c1d4a915f6cdf2292b3756f330"), looks := false }, kinds := [], alts := [], laidByText := true, laidKinds := [.data, .data, .data], laidTests := true, laidLooks := .later }
def ReportLinesCardSaid : Prop := Claim7.holds Tryd.pinned (.plain (OpenSpec.ofChange reportLinesSpec)) reportLinesCard

/-- THE SECOND FORM's CARD OF 'ferrulelaw04.ShowTypes'. -/
def showTypesUptoCard : Claim7 := { stood := { row := showTypesUptoRow, standIns := [], harness := (true, "a80e3c7a991306e56f2d4bfeda0baa61953363c1d4a915f6cdf2292b3756f330"), looks := false }, kinds := [], alts := [], laidByText := true, laidKinds := [.data, .data, .data], laidTests := true, laidLooks := .later }
def ShowTypesUptoCardSaid : Prop := Claim7.holds Tryd.pinned (.plain (OpenSpec.upto showTypesSpec)) showTypesUptoCard

/-- THE SECOND FORM's CARD OF 'ferrulelaw28.ReportPlaces'. -/
def reportPlacesUptoCard : Claim7 := { stood := { row := reportPlacesUptoRow, standIns := [], harness := (true, "a80e3c7a991306e56f2d4bfeda0baa61953363c1d4a915f6cdf2292b3756f330"), looks := false }, kinds := [], alts := [], laidByText := true, laidKinds := [.data, .data, .data], laidTests := true, laidLooks := .later }
def ReportPlacesUptoCardSaid : Prop := Claim7.holds Tryd.pinned (.plain (OpenSpec.upto reportPlacesSpec)) reportPlacesUptoCard

/-- THE SECOND FORM's CARD OF 'ferrulelaw28.ReportLines'. -/
def reportLinesUptoCard : Claim7 := { stood := { row := reportLinesUptoRow, standIns := [], harness := (true, "a80e3c7a991306e56f2d4bfeda0baa61953363c1d4a915f6cdf2292b3756f330"), looks := false }, kinds := [], alts := [], laidByText := true, laidKinds := [.data, .data, .data], laidTests := true, laidLooks := .later }
def ReportLinesUptoCardSaid : Prop := Claim7.holds Tryd.pinned (.plain (OpenSpec.upto reportLinesSpec)) reportLinesUptoCard
end Rows
end Go.Proofs.YtocjfdpknfnamaaDoor
