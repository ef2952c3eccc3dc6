/-
  DERIVED. GIVEN WITH THE SEED: THE CARDS: each row of YtngpgdmafmkddaaDoorRows.lean that lists a variable, with what it lists TIED to the program's text (the seventh form; the later family's looks); each row that meets fmt, with fmt's text TOLD by the authors' own Lean function (tested against real Go, not proved from fmt's source: count such statements apart). THE CARD IS WHAT COUNTS. Prove the row's statement (the work); the ties are given (YtngpgdmafmkddaaDoorTie.lean); close each card by the builder's one call (the guide's Derived/Test/ToyasCard.lean, 'card_holds'). Laid BY PROGRAM, IN A SANDBOX (cutbox-door.mjs). By AI agents, Wed Nov 11 2026. No macro, syntax, notation, axiom, sorry.
-/
import Derived.Test.YtngpgdmafmkddaaDoorRows
import GoSem.ClaimSeven
namespace Go.Proofs.YtngpgdmafmkddaaDoor
namespace Rows

/-- THE TIED CARD OF 'ferrulelaw03.ParseBlanks'. -/
def parseBlanksCard : Claim7 := { stood := { row := parseBlanksRow, standIns := [], harness := (true, "49506e35003b1dcab31e211f1b0b39d701555e02af77e0f915e10b1691e7376b"), looks := true }, kinds := [], alts := [], laidByText := true, laidKinds := [.listed, .data], laidTests := true, laidLooks := .later }
def ParseBlanksCardSaid : Prop := Claim7.holds Tryd.pinned (.plain (OpenSpec.ofChange parseBlanksSpec)) parseBlanksCard

/-- THE TIED CARD OF 'ferrulelaw03.ParseBinds'. -/
def parseBindsCard : Claim7 := { stood := { row := parseBindsRow, standIns := [], harness := (true, "49506e35003b1dcab31e211f1b0b39d701555e02af77e0f915e10b1691e7376b"), looks := true }, kinds := [], alts := [], laidByText := true, laidKinds := [.listed, .data], laidTests := true, laidLooks := .later }
def ParseBindsCardSaid : Prop := Claim7.holds Tryd.pinned (.plain (OpenSpec.ofChange parseBindsSpec)) parseBindsCard

/-- THE TIED CARD OF 'ferrulelaw03.ParseDeep'. -/
def parseDeepCard : Claim7 := { stood := { row := parseDeepRow, standIns := [], harness := (true, "49506e35003b1dcab31e211f1b0b39d701555e02af77e0f915e10b1691e7376b"), looks := true }, kinds := [], alts := [], laidByText := true, laidKinds := [.listed, .data], laidTests := true, laidLooks := .later }
def ParseDeepCardSaid : Prop := Claim7.holds Tryd.pinned (.plain (OpenSpec.ofChange parseDeepSpec)) parseDeepCard

/-- THE TIED CARD OF 'ferrulelaw03.ParseSpots'. -/
def parseSpotsCard : Claim7 := { stood := { row := parseSpotsRow, standIns := [], harness := (true, "49506e35003b1dcab31e211f1b0b39d701555e02af77e0f915e10b1691e7376b"), looks := true }, kinds := [], alts := [], laidByText := true, laidKinds := [.listed, .data], laidTests := true, laidLooks := .later }
def ParseSpotsCardSaid : Prop := Claim7.holds Tryd.pinned (.plain (OpenSpec.ofChange parseSpotsSpec)) parseSpotsCard

/-- THE TIED CARD OF 'ferrulelaw03.ParseItems'. -/
def parseItemsCard : Claim7 := { stood := { row := parseItemsRow, standIns := [], harness := (true, "49506e35003b1dcab31e211f1b0b39d701555e02af77e0f915e10b1691e7376b"), looks := true }, kinds := [], alts := [], laidByText := true, laidKinds := [.listed, .data], laidTests := true, laidLooks := .later }
def ParseItemsCardSaid : Prop := Claim7.holds Tryd.pinned (.plain (OpenSpec.ofChange parseItemsSpec)) parseItemsCard

/-- THE SECOND FORM's CARD OF 'ferrulelaw03.ParseBlanks'. -/
def parseBlanksUptoCard : Claim7 := { stood := { row := parseBlanksUptoRow, standIns := [], harness := (true, "49506e35003b1dcab31e211f1b0b39d701555e02af77e0f915e10b1691e7376b"), looks := true }, kinds := [], alts := [], laidByText := true, laidKinds := [.listed, .data], laidTests := true, laidLooks := .later }
def ParseBlanksUptoCardSaid : Prop := Claim7.holds Tryd.pinned (.plain (OpenSpec.upto parseBlanksSpec)) parseBlanksUptoCard

/-- THE SECOND FORM's CARD OF 'ferrulelaw03.ParseBinds'. -/
def parseBindsUptoCard : Claim7 := { stood := { row := parseBindsUptoRow, standIns := [], harness := (true, "49506e35003b1dcab31e211f1b0b39d701555e02af77e0f915e10b1691e7376b"), looks := true }, kinds := [], alts := [], laidByText := true, laidKinds := [.listed, .data], laidTests := true, laidLooks := .later }
def ParseBindsUptoCardSaid : Prop := Claim7.holds Tryd.pinned (.plain (OpenSpec.upto parseBindsSpec)) parseBindsUptoCard

/-- THE SECOND FORM's CARD OF 'ferrulelaw03.ParseDeep'. -/
def parseDeepUptoCard : Claim7 := { stood := { row := parseDeepUptoRow, standIns := [], harness := (true, "49506e35003b1dcab31e211f1b0b39d701555e02af77e0f915e10b1691e7376b"), looks := true }, kinds := [], alts := [], laidByText := true, laidKinds := [.listed, .data], laidTests := true, laidLooks := .later }
def ParseDeepUptoCardSaid : Prop := Claim7.holds Tryd.pinned (.plain (OpenSpec.upto parseDeepSpec)) parseDeepUptoCard

/-- THE SECOND FORM's CARD OF 'ferrulelaw03.ParseSpots'. -/
def parseSpotsUptoCard : Claim7 := { stood := { row := parseSpotsUptoRow, standIns := [], harness := (true, "49506e35003b1dcab31e211f1b0b39d701555e02af77e0f915e10b1691e7376b"), looks := true }, kinds := [], alts := [], laidByText := true, laidKinds := [.listed, .data], laidTests := true, laidLooks := .later }
def ParseSpotsUptoCardSaid : Prop := Claim7.holds Tryd.pinned (.plain (OpenSpec.upto parseSpotsSpec)) parseSpotsUptoCard

/-- THE SECOND FORM's CARD OF 'ferrulelaw03.ParseItems'. -/
def parseItemsUptoCard : Claim7 := { stood := { row := parseItemsUptoRow, standIns := [], harness := (true, "49506e35003b1dcab31e211f1b0b39d701555e02af77e0f915e10b1691e7376b"), looks := true }, kinds := [], alts := [], laidByText := true, laidKinds := [.listed, .data], laidTests := true, laidLooks := .later }
def ParseItemsUptoCardSaid : Prop := Claim7.holds Tryd.pinned (.plain (OpenSpec.upto parseItemsSpec)) parseItemsUptoCard
end Rows
end Go.Proofs.YtngpgdmafmkddaaDoor
