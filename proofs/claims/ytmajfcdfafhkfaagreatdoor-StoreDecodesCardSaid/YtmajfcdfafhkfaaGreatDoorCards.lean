/-
  DERIVED. GIVEN WITH THE SEED: THE CARDS: each row of YtmajfcdfafhkfaaGreatDoorRows.lean that lists a variable, with what it lists TIED to the program's text (the seventh form; the later family's looks); each row that meets fmt, with fmt's text TOLD by the authors' own Lean function (tested against real Go, not proved from fmt's source: count such statements apart). THE CARD IS WHAT COUNTS. Prove the row's statement (the work); the ties are given (YtmajfcdfafhkfaaGreatDoorTie.lean); close each card by the builder's one call (the guide's Derived/Test/ToyasCard.lean, 'card_holds'). Laid BY PROGRAM, IN A SANDBOX (cutbox-door.mjs). By AI agents, Wed Nov 11 2026. No macro, syntax, notation, axiom, sorry.
-/
import Derived.Test.YtmajfcdfafhkfaaGreatDoorRows
import GoSem.ClaimSeven
namespace Go.Proofs.YtmajfcdfafhkfaaGreatDoor
namespace Rows

/-- THE TIED CARD OF 'mooringlaw09.StoreCodes'. -/
def storeCodesCard : Claim7 := { stood := { row := storeCodesRow, standIns := [], harness := (true, "e83246845ffec733def70826dcb8714cad7475b14dc1a1645e14d4b0f4726d91"), looks := true }, kinds := [], alts := [], laidByText := true, laidKinds := [.data, .pinned], laidTests := true, laidLooks := .later }
def StoreCodesCardSaid : Prop := Claim7.holds Tryz.pinned (.plain (OpenSpec.ofChange storeCodesSpec)) storeCodesCard

/-- THE TIED CARD OF 'mooringlaw09.StoreDecodes'. -/
def storeDecodesCard : Claim7 := { stood := { row := storeDecodesRow, standIns := [], harness := (true, "e83246845ffec733def70826dcb8714cad7475b14dc1a1645e14d4b0f4726d91"), looks := true }, kinds := [], alts := [], laidByText := true, laidKinds := [.data, .pinned], laidTests := true, laidLooks := .later }
def StoreDecodesCardSaid : Prop := Claim7.holds Tryz.pinned (.plain (OpenSpec.ofChange storeDecodesSpec)) storeDecodesCard

/-- THE TIED CARD OF 'mooringlaw09.StoreNobody'. -/
def storeNobodyCard : Claim7 := { stood := { row := storeNobodyRow, standIns := [], harness := (true, "e83246845ffec733def70826dcb8714cad7475b14dc1a1645e14d4b0f4726d91"), looks := true }, kinds := [], alts := [], laidByText := true, laidKinds := [.data, .pinned], laidTests := true, laidLooks := .later }
def StoreNobodyCardSaid : Prop := Claim7.holds Tryz.pinned (.plain (OpenSpec.ofChange storeNobodySpec)) storeNobodyCard

/-- THE TIED CARD OF 'mooringlaw09.StoreActs'. -/
def storeActsCard : Claim7 := { stood := { row := storeActsRow, standIns := [], harness := (true, "e83246845ffec733def70826dcb8714cad7475b14dc1a1645e14d4b0f4726d91"), looks := true }, kinds := [], alts := [], laidByText := true, laidKinds := [.data, .pinned], laidTests := true, laidLooks := .later }
def StoreActsCardSaid : Prop := Claim7.holds Tryz.pinned (.plain (OpenSpec.ofChange storeActsSpec)) storeActsCard

/-- THE SECOND FORM's CARD OF 'mooringlaw09.StoreCodes'. -/
def storeCodesUptoCard : Claim7 := { stood := { row := storeCodesUptoRow, standIns := [], harness := (true, "e83246845ffec733def70826dcb8714cad7475b14dc1a1645e14d4b0f4726d91"), looks := true }, kinds := [], alts := [], laidByText := true, laidKinds := [.data, .pinned], laidTests := true, laidLooks := .later }
def StoreCodesUptoCardSaid : Prop := Claim7.holds Tryz.pinned (.plain (OpenSpec.upto storeCodesSpec)) storeCodesUptoCard

/-- THE SECOND FORM's CARD OF 'mooringlaw09.StoreDecodes'. -/
def storeDecodesUptoCard : Claim7 := { stood := { row := storeDecodesUptoRow, standIns := [], harness := (true, "e83246845ffec733def70826dcb8714cad7475b14dc1a1645e14d4b0f4726d91"), looks := true }, kinds := [], alts := [], laidByText := true, laidKinds := [.data, .pinned], laidTests := true, laidLooks := .later }
def StoreDecodesUptoCardSaid : Prop := Claim7.holds Tryz.pinned (.plain (OpenSpec.upto storeDecodesSpec)) storeDecodesUptoCard

/-- THE SECOND FORM's CARD OF 'mooringlaw09.StoreNobody'. -/
def storeNobodyUptoCard : Claim7 := { stood := { row := storeNobodyUptoRow, standIns := [], harness := (true, "e83246845ffec733def70826dcb8714cad7475b14dc1a1645e14d4b0f4726d91"), looks := true }, kinds := [], alts := [], laidByText := true, laidKinds := [.data, .pinned], laidTests := true, laidLooks := .later }
def StoreNobodyUptoCardSaid : Prop := Claim7.holds Tryz.pinned (.plain (OpenSpec.upto storeNobodySpec)) storeNobodyUptoCard

/-- THE SECOND FORM's CARD OF 'mooringlaw09.StoreActs'. -/
def storeActsUptoCard : Claim7 := { stood := { row := storeActsUptoRow, standIns := [], harness := (true, "e83246845ffec733def70826dcb8714cad7475b14dc1a1645e14d4b0f4726d91"), looks := true }, kinds := [], alts := [], laidByText := true, laidKinds := [.data, .pinned], laidTests := true, laidLooks := .later }
def StoreActsUptoCardSaid : Prop := Claim7.holds Tryz.pinned (.plain (OpenSpec.upto storeActsSpec)) storeActsUptoCard
end Rows
end Go.Proofs.YtmajfcdfafhkfaaGreatDoor
