/-
  DERIVED. GIVEN WITH THE SEED: THE CARDS: each row of YtnfgiamdmfkcjaaDoorRows.lean that lists a variable, with what it lists TIED to the program's text (the seventh form; the later family's looks); each row that meets fmt, with fmt's text TOLD by the authors' own Lean function (tested against real Go, not proved from fmt's source: count such statements apart). THE CARD IS WHAT COUNTS. Prove the row's statement (the work); the ties are given (YtnfgiamdmfkcjaaDoorTie.lean); close each card by the builder's one call (the guide's Derived/Test/ToyasCard.lean, 'card_holds'). Laid BY PROGRAM, IN A SANDBOX (cutbox-door.mjs). By AI agents, Wed Nov 11 2026. No macro, syntax, notation, axiom, sorry.
-/
import Derived.Test.YtnfgiamdmfkcjaaDoorRows
import GoSem.ClaimSeven
namespace Go.Proofs.YtnfgiamdmfkcjaaDoor
namespace Rows

/-- THE TIED CARD OF 'mooringlaw20.StripeJoins'. -/
def stripeJoinsCard : Claim7 := { stood := { row := stripeJoinsRow, standIns := [], harness := (true, "59a78720af07b208f3b6b0b830921a8e6cf712b57b3bb2b49fc1a066e9ccd282"), looks := false }, kinds := [], alts := [], laidByText := true, laidKinds := [.data, .pinned], laidTests := true, laidLooks := .later }
def StripeJoinsCardSaid : Prop := Claim7.holds Tryd.pinned (.plain (OpenSpec.ofChange stripeJoinsSpec)) stripeJoinsCard

/-- THE TIED CARD OF 'mooringlaw20.StripeRefuses'. -/
def stripeRefusesCard : Claim7 := { stood := { row := stripeRefusesRow, standIns := [], harness := (true, "59a78720af07b208f3b6b0b830921a8e6cf712b57b3bb2b49fc1a066e9ccd282"), looks := false }, kinds := [], alts := [], laidByText := true, laidKinds := [.data, .pinned], laidTests := true, laidLooks := .later }
def StripeRefusesCardSaid : Prop := Claim7.holds Tryd.pinned (.plain (OpenSpec.ofChange stripeRefusesSpec)) stripeRefusesCard

/-- THE TIED CARD OF 'mooringlaw23.RebuildChunks'. -/
def rebuildChunksCard : Claim7 := { stood := { row := rebuildChunksRow, standIns := [], harness := (true, "59a78720af07b208f3b6b0b830921a8e6cf712b57b3bb2b49fc1a066e9ccd282"), looks := false }, kinds := [], alts := [], laidByText := true, laidKinds := [.data, .pinned], laidTests := true, laidLooks := .later }
def RebuildChunksCardSaid : Prop := Claim7.holds Tryd.pinned (.plain (OpenSpec.ofChange rebuildChunksSpec)) rebuildChunksCard

/-- THE TIED CARD OF 'mooringlaw23.RebuildMakes'. -/
def rebuildMakesCard : Claim7 := { stood := { row := rebuildMakesRow, standIns := [], harness := (true, "59a78720af07b208f3b6b0b830921a8e6cf712b57b3bb2b49fc1a066e9ccd282"), looks := false }, kinds := [], alts := [], laidByText := true, laidKinds := [.data, .pinned], laidTests := true, laidLooks := .later }
def RebuildMakesCardSaid : Prop := Claim7.holds Tryd.pinned (.plain (OpenSpec.ofChange rebuildMakesSpec)) rebuildMakesCard

/-- THE TIED CARD OF 'mooringlaw23.RebuildReads'. -/
def rebuildReadsCard : Claim7 := { stood := { row := rebuildReadsRow, standIns := [], harness := (true, "59a78720af07b208f3b6b0b830921a8e6cf712b57b3bb2b49fc1a066e9ccd282"), looks := false }, kinds := [], alts := [], laidByText := true, laidKinds := [.data, .pinned], laidTests := true, laidLooks := .later }
def RebuildReadsCardSaid : Prop := Claim7.holds Tryd.pinned (.plain (OpenSpec.ofChange rebuildReadsSpec)) rebuildReadsCard

/-- THE TIED CARD OF 'mooringlaw23.RebuildTwice'. -/
def rebuildTwiceCard : Claim7 := { stood := { row := rebuildTwiceRow, standIns := [], harness := (true, "59a78720af07b208f3b6b0b830921a8e6cf712b57b3bb2b49fc1a066e9ccd282"), looks := false }, kinds := [], alts := [], laidByText := true, laidKinds := [.data, .pinned], laidTests := true, laidLooks := .later }
def RebuildTwiceCardSaid : Prop := Claim7.holds Tryd.pinned (.plain (OpenSpec.ofChange rebuildTwiceSpec)) rebuildTwiceCard

/-- THE SECOND FORM's CARD OF 'mooringlaw20.StripeJoins'. -/
def stripeJoinsUptoCard : Claim7 := { stood := { row := stripeJoinsUptoRow, standIns := [], harness := (true, "59a78720af07b208f3b6b0b830921a8e6cf712b57b3bb2b49fc1a066e9ccd282"), looks := false }, kinds := [], alts := [], laidByText := true, laidKinds := [.data, .pinned], laidTests := true, laidLooks := .later }
def StripeJoinsUptoCardSaid : Prop := Claim7.holds Tryd.pinned (.plain (OpenSpec.upto stripeJoinsSpec)) stripeJoinsUptoCard

/-- THE SECOND FORM's CARD OF 'mooringlaw20.StripeRefuses'. -/
def stripeRefusesUptoCard : Claim7 := { stood := { row := stripeRefusesUptoRow, standIns := [], harness := (true, "59a78720af07b208f3b6b0b830921a8e6cf712b57b3bb2b49fc1a066e9ccd282"), looks := false }, kinds := [], alts := [], laidByText := true, laidKinds := [.data, .pinned], laidTests := true, laidLooks := .later }
def StripeRefusesUptoCardSaid : Prop := Claim7.holds Tryd.pinned (.plain (OpenSpec.upto stripeRefusesSpec)) stripeRefusesUptoCard

/-- THE SECOND FORM's CARD OF 'mooringlaw23.RebuildChunks'. -/
def rebuildChunksUptoCard : Claim7 := { stood := { row := rebuildChunksUptoRow, standIns := [], harness := (true, "59a78720af07b208f3b6b0b830921a8e6cf712b57b3bb2b49fc1a066e9ccd282"), looks := false }, kinds := [], alts := [], laidByText := true, laidKinds := [.data, .pinned], laidTests := true, laidLooks := .later }
def RebuildChunksUptoCardSaid : Prop := Claim7.holds Tryd.pinned (.plain (OpenSpec.upto rebuildChunksSpec)) rebuildChunksUptoCard

/-- THE SECOND FORM's CARD OF 'mooringlaw23.RebuildMakes'. -/
def rebuildMakesUptoCard : Claim7 := { stood := { row := rebuildMakesUptoRow, standIns := [], harness := (true, "59a78720af07b208f3b6b0b830921a8e6cf712b57b3bb2b49fc1a066e9ccd282"), looks := false }, kinds := [], alts := [], laidByText := true, laidKinds := [.data, .pinned], laidTests := true, laidLooks := .later }
def RebuildMakesUptoCardSaid : Prop := Claim7.holds Tryd.pinned (.plain (OpenSpec.upto rebuildMakesSpec)) rebuildMakesUptoCard

/-- THE SECOND FORM's CARD OF 'mooringlaw23.RebuildReads'. -/
def rebuildReadsUptoCard : Claim7 := { stood := { row := rebuildReadsUptoRow, standIns := [], harness := (true, "59a78720af07b208f3b6b0b830921a8e6cf712b57b3bb2b49fc1a066e9ccd282"), looks := false }, kinds := [], alts := [], laidByText := true, laidKinds := [.data, .pinned], laidTests := true, laidLooks := .later }
def RebuildReadsUptoCardSaid : Prop := Claim7.holds Tryd.pinned (.plain (OpenSpec.upto rebuildReadsSpec)) rebuildReadsUptoCard

/-- THE SECOND FORM's CARD OF 'mooringlaw23.RebuildTwice'. -/
def rebuildTwiceUptoCard : Claim7 := { stood := { row := rebuildTwiceUptoRow, standIns := [], harness := (true, "59a78720af07b208f3b6b0b830921a8e6cf712b57b3bb2b49fc1a066e9ccd282"), looks := false }, kinds := [], alts := [], laidByText := true, laidKinds := [.data, .pinned], laidTests := true, laidLooks := .later }
def RebuildTwiceUptoCardSaid : Prop := Claim7.holds Tryd.pinned (.plain (OpenSpec.upto rebuildTwiceSpec)) rebuildTwiceUptoCard
end Rows
end Go.Proofs.YtnfgiamdmfkcjaaDoor
