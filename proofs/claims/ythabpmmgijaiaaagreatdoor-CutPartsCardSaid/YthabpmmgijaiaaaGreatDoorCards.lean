/-
  DERIVED. GIVEN WITH THE SEED: THE CARDS: each row of YthabpmmgijaiaaaGreatDoorRows.lean that lists a variable, with what it lists TIED to the program's text (the seventh form; the later family's looks); each row that meets fmt, with fmt's text TOLD by the authors' own Lean function (tested against real Go, not proved from fmt's source: count such statements apart). THE CARD IS WHAT COUNTS. Prove the row's statement (the work); the ties are given (YthabpmmgijaiaaaGreatDoorTie.lean); close each card by the builder's one call (the guide's Derived/Test/ToyasCard.lean, 'card_holds'). Laid BY PROGRAM, IN A SANDBOX (cutbox-door.mjs). By AI agents, Wed Nov 11 2026. No macro, syntax, notation, axiom, sorry.
-/
import Derived.Test.YthabpmmgijaiaaaGreatDoorRows
import GoSem.ClaimSeven
namespace Go.Proofs.YthabpmmgijaiaaaGreatDoor
namespace Rows

/-- THE TIED CARD OF 'queuelablaw34.CutParts'. -/
def cutPartsCard : Claim7 := { stood := { row := cutPartsRow, standIns := [], harness := (true, "2a770475245565fcc9dcbe4929d38797fdd1535d24c29b571e7266bb4cefa1c0"), looks := true }, kinds := [], alts := [], laidByText := true, laidKinds := [.data, .data, .data], laidTests := true, laidLooks := .later }
def CutPartsCardSaid : Prop := Claim7.holds Tryz.pinned (.plain (OpenSpec.ofChange cutPartsSpec)) cutPartsCard

/-- THE TIED CARD OF 'queuelablaw34.CutOrder'. -/
def cutOrderCard : Claim7 := { stood := { row := cutOrderRow, standIns := [], harness := (true, "2a770475245565fcc9dcbe4929d38797fdd1535d24c29b571e7266bb4cefa1c0"), looks := true }, kinds := [], alts := [], laidByText := true, laidKinds := [.data, .data, .data], laidTests := true, laidLooks := .later }
def CutOrderCardSaid : Prop := Claim7.holds Tryz.pinned (.plain (OpenSpec.ofChange cutOrderSpec)) cutOrderCard

/-- THE SECOND FORM's CARD OF 'queuelablaw34.CutParts'. -/
def cutPartsUptoCard : Claim7 := { stood := { row := cutPartsUptoRow, standIns := [], harness := (true, "2a770475245565fcc9dcbe4929d38797fdd1535d24c29b571e7266bb4cefa1c0"), looks := true }, kinds := [], alts := [], laidByText := true, laidKinds := [.data, .data, .data], laidTests := true, laidLooks := .later }
def CutPartsUptoCardSaid : Prop := Claim7.holds Tryz.pinned (.plain (OpenSpec.upto cutPartsSpec)) cutPartsUptoCard

/-- THE SECOND FORM's CARD OF 'queuelablaw34.CutOrder'. -/
def cutOrderUptoCard : Claim7 := { stood := { row := cutOrderUptoRow, standIns := [], harness := (true, "2a770475245565fcc9dcbe4929d38797fdd1535d24c29b571e7266bb4cefa1c0"), looks := true }, kinds := [], alts := [], laidByText := true, laidKinds := [.data, .data, .data], laidTests := true, laidLooks := .later }
def CutOrderUptoCardSaid : Prop := Claim7.holds Tryz.pinned (.plain (OpenSpec.upto cutOrderSpec)) cutOrderUptoCard
end Rows
end Go.Proofs.YthabpmmgijaiaaaGreatDoor
