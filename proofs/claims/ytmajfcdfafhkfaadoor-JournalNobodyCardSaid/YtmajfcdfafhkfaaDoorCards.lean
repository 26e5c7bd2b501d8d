/-
  DERIVED. GIVEN WITH THE SEED: THE CARDS: each row of YtmajfcdfafhkfaaDoorRows.lean that lists a variable, with what it lists TIED to the program's text (the seventh form; the later family's looks); each row that meets fmt, with fmt's text TOLD by the authors' own Lean function (tested against real Go, not proved from fmt's source: count such statements apart). THE CARD IS WHAT COUNTS. Prove the row's statement (the work); the ties are given (YtmajfcdfafhkfaaDoorTie.lean); close each card by the builder's one call (the guide's Derived/Test/ToyasCard.lean, 'card_holds'). Laid BY PROGRAM, IN A SANDBOX (cutbox-door.mjs). By AI agents, Wed Nov 11 2026. No macro, syntax, notation, axiom, sorry.
-/
import Derived.Test.YtmajfcdfafhkfaaDoorRows
import GoSem.ClaimSeven
namespace Go.Proofs.YtmajfcdfafhkfaaDoor
namespace Rows

/-- THE TIED CARD OF 'mooringlaw08.JournalNobody'. -/
def journalNobodyCard : Claim7 := { stood := { row := journalNobodyRow, standIns := [], harness := (true, "a6545167b3081b6cd92e2fb5b17d9c7940b8094cf32231a8c6a9ddb0b16361b9"), looks := false }, kinds := [], alts := [], laidByText := true, laidKinds := [.data, .pinned], laidTests := true, laidLooks := .later }
def JournalNobodyCardSaid : Prop := Claim7.holds Tryd.pinned (.plain (OpenSpec.ofChange journalNobodySpec)) journalNobodyCard

/-- THE SECOND FORM's CARD OF 'mooringlaw08.JournalNobody'. -/
def journalNobodyUptoCard : Claim7 := { stood := { row := journalNobodyUptoRow, standIns := [], harness := (true, "a6545167b3081b6cd92e2fb5b17d9c7940b8094cf32231a8c6a9ddb0b16361b9"), looks := false }, kinds := [], alts := [], laidByText := true, laidKinds := [.data, .pinned], laidTests := true, laidLooks := .later }
def JournalNobodyUptoCardSaid : Prop := Claim7.holds Tryd.pinned (.plain (OpenSpec.upto journalNobodySpec)) journalNobodyUptoCard
end Rows
end Go.Proofs.YtmajfcdfafhkfaaDoor
