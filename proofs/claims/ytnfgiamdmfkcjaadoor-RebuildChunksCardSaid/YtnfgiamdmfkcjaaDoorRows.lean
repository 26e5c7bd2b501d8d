/-
  NARROWER THAN 'FOR EVERY INPUT', by the rows' own cells (each row's printed sentence says how): StripeJoins: laid · StripeRefuses: laid · RebuildChunks: laid · RebuildMakes: laid · RebuildReads: laid · RebuildTwice: laid.
  DERIVED. THE GIVEN ROWS OF THIS SEAT. 6 by the template 'for every input the law returns true; each argument reads behind the call as it read before'; 0 by the template 'total and deterministic' (their statements: YtnfgiamdmfkcjaaDoorTotals.lean).
  GIVEN WITH THE SEED: the statements are not yours to turn. If you find one false, say at which input.
  Laid BY PROGRAM, IN A SANDBOX (cutbox-rows.mjs): the forced cells as the released guide's own fill.sh prints them over the translation 37a88ef23535358a… (all of the seat's roots in one cut). By AI agents, Wed Nov 11 2026. No macro, syntax, notation, axiom, sorry.
-/
import Derived.Test.YtnfgiamdmfkcjaaDoorChecked
import GoSem.PinnedTables
import GoSem.Claim
import GoSem.ClaimJoined
import GoSem.ClaimMapViews
import Derived.JoinedTies
import Derived.KernelRfl
namespace Go.Proofs.YtnfgiamdmfkcjaaDoor
/- THE CELL 'sum', in the pinned program and in every row, IS THE sha256 OF THE DUMP (.gsa) THAT YtnfgiamdmfkcjaaDoorProg.lean LOADS. Nothing in Lean hashes anything: it is a label: what it is worth is what the hold of that sum in a sandbox is worth. -/
noncomputable def Tryd.pinned : Pinned := { name := "ytnfgiamdmfkcjaadoor", sum := "37a88ef23535358abd1d4498d3678eadb352bab55b11850d0fb4257879749ce3", checked := Tryd.checked }
namespace Rows
def none {H : Type} : Left H := { results := [], args := [] }

/- WHAT THE LISTED PACKAGE-LEVEL VARIABLES READ AS WHEN THE CALL BEGINS. Each datum BY PROGRAM (the guide's laid-datum.mjs) off the statement by which the dump's own 'gosem.cut.vars' lays the variable. In a bare row this is a premise. The card (YtnfgiamdmfkcjaaDoorCards.lean) ties it to the program's text. -/
def laid_unicode_utf8_acceptRanges {H : Type} : DataW H := .agg [.agg [.lit (.int .u8 128), .lit (.int .u8 191)], .agg [.lit (.int .u8 160), .lit (.int .u8 191)], .agg [.lit (.int .u8 128), .lit (.int .u8 159)], .agg [.lit (.int .u8 144), .lit (.int .u8 191)], .agg [.lit (.int .u8 128), .lit (.int .u8 143)], .agg [.lit (.int .u8 0), .lit (.int .u8 0)], .agg [.lit (.int .u8 0), .lit (.int .u8 0)], .agg [.lit (.int .u8 0), .lit (.int .u8 0)], .agg [.lit (.int .u8 0), .lit (.int .u8 0)], .agg [.lit (.int .u8 0), .lit (.int .u8 0)], .agg [.lit (.int .u8 0), .lit (.int .u8 0)], .agg [.lit (.int .u8 0), .lit (.int .u8 0)], .agg [.lit (.int .u8 0), .lit (.int .u8 0)], .agg [.lit (.int .u8 0), .lit (.int .u8 0)], .agg [.lit (.int .u8 0), .lit (.int .u8 0)], .agg [.lit (.int .u8 0), .lit (.int .u8 0)]]
/-- One of Go's own tables, pinned by name: the form's constant. -/
def laid_unicode_utf8_first : DataW Unit := Go.Pinned.utf8First

/-- 'mooringlaw20.StripeJoins': WHATEVER THE INPUT: true; the input reads as it did. -/
def stripeJoinsSpec : ChangeSpec := { name := "stripeJoins", fn := fun _ => fun
  | [d] => { results := [.lit (.bool true)], args := [d] }
  | _ => none }
def stripeJoinsRow : OpenClaim := { program := "ytnfgiamdmfkcjaadoor", sum := "37a88ef23535358abd1d4498d3678eadb352bab55b11850d0fb4257879749ce3", func := "mooring/mooringlaw20.StripeJoins", spec := "stripeJoins", unfollowed := true, recurses := true, named := ["unicode/utf8.first", "unicode/utf8.acceptRanges"], apart := false, laid := [("unicode/utf8.acceptRanges", laid_unicode_utf8_acceptRanges), ("unicode/utf8.first", laid_unicode_utf8_first)] }
def StripeJoinsSaid : Prop := stripeJoinsRow.holds Tryd.pinned (OpenSpec.ofChange stripeJoinsSpec)

/-- ITS FALSE NEIGHBOUR: 'it returns false'. Refute it at one input. -/
def stripeJoinsWrong : ChangeSpec := { name := "stripeJoins", fn := fun _ => fun
  | [d] => { results := [.lit (.bool false)], args := [d] }
  | _ => none }
def StripeJoinsWrongFalsely : Prop := stripeJoinsRow.holds Tryd.pinned (OpenSpec.ofChange stripeJoinsWrong)

/-- 'mooringlaw20.StripeRefuses': WHATEVER THE INPUT: true; the input reads as it did. -/
def stripeRefusesSpec : ChangeSpec := { name := "stripeRefuses", fn := fun _ => fun
  | [d1, d2, d3] => { results := [.lit (.bool true)], args := [d1, d2, d3] }
  | _ => none }
def stripeRefusesRow : OpenClaim := { program := "ytnfgiamdmfkcjaadoor", sum := "37a88ef23535358abd1d4498d3678eadb352bab55b11850d0fb4257879749ce3", func := "mooring/mooringlaw20.StripeRefuses", spec := "stripeRefuses", unfollowed := true, recurses := true, named := ["unicode/utf8.first", "unicode/utf8.acceptRanges"], apart := false, laid := [("unicode/utf8.acceptRanges", laid_unicode_utf8_acceptRanges), ("unicode/utf8.first", laid_unicode_utf8_first)] }
def StripeRefusesSaid : Prop := stripeRefusesRow.holds Tryd.pinned (OpenSpec.ofChange stripeRefusesSpec)

/-- ITS FALSE NEIGHBOUR: 'it returns false'. Refute it at one input. -/
def stripeRefusesWrong : ChangeSpec := { name := "stripeRefuses", fn := fun _ => fun
  | [d1, d2, d3] => { results := [.lit (.bool false)], args := [d1, d2, d3] }
  | _ => none }
def StripeRefusesWrongFalsely : Prop := stripeRefusesRow.holds Tryd.pinned (OpenSpec.ofChange stripeRefusesWrong)

/-- 'mooringlaw23.RebuildChunks': WHATEVER THE INPUT: true; the input reads as it did. -/
def rebuildChunksSpec : ChangeSpec := { name := "rebuildChunks", fn := fun _ => fun
  | [d1, d2, d3] => { results := [.lit (.bool true)], args := [d1, d2, d3] }
  | _ => none }
def rebuildChunksRow : OpenClaim := { program := "ytnfgiamdmfkcjaadoor", sum := "37a88ef23535358abd1d4498d3678eadb352bab55b11850d0fb4257879749ce3", func := "mooring/mooringlaw23.RebuildChunks", spec := "rebuildChunks", unfollowed := true, recurses := true, named := ["unicode/utf8.first", "unicode/utf8.acceptRanges"], apart := false, laid := [("unicode/utf8.acceptRanges", laid_unicode_utf8_acceptRanges), ("unicode/utf8.first", laid_unicode_utf8_first)] }
def RebuildChunksSaid : Prop := rebuildChunksRow.holds Tryd.pinned (OpenSpec.ofChange rebuildChunksSpec)

/-- ITS FALSE NEIGHBOUR: 'it returns false'. Refute it at one input. -/
def rebuildChunksWrong : ChangeSpec := { name := "rebuildChunks", fn := fun _ => fun
  | [d1, d2, d3] => { results := [.lit (.bool false)], args := [d1, d2, d3] }
  | _ => none }
def RebuildChunksWrongFalsely : Prop := rebuildChunksRow.holds Tryd.pinned (OpenSpec.ofChange rebuildChunksWrong)

/-- 'mooringlaw23.RebuildMakes': WHATEVER THE INPUT: true; the input reads as it did. -/
def rebuildMakesSpec : ChangeSpec := { name := "rebuildMakes", fn := fun _ => fun
  | [d] => { results := [.lit (.bool true)], args := [d] }
  | _ => none }
def rebuildMakesRow : OpenClaim := { program := "ytnfgiamdmfkcjaadoor", sum := "37a88ef23535358abd1d4498d3678eadb352bab55b11850d0fb4257879749ce3", func := "mooring/mooringlaw23.RebuildMakes", spec := "rebuildMakes", unfollowed := true, recurses := true, named := ["unicode/utf8.first", "unicode/utf8.acceptRanges"], apart := false, laid := [("unicode/utf8.acceptRanges", laid_unicode_utf8_acceptRanges), ("unicode/utf8.first", laid_unicode_utf8_first)] }
def RebuildMakesSaid : Prop := rebuildMakesRow.holds Tryd.pinned (OpenSpec.ofChange rebuildMakesSpec)

/-- ITS FALSE NEIGHBOUR: 'it returns false'. Refute it at one input. -/
def rebuildMakesWrong : ChangeSpec := { name := "rebuildMakes", fn := fun _ => fun
  | [d] => { results := [.lit (.bool false)], args := [d] }
  | _ => none }
def RebuildMakesWrongFalsely : Prop := rebuildMakesRow.holds Tryd.pinned (OpenSpec.ofChange rebuildMakesWrong)

/-- 'mooringlaw23.RebuildReads': WHATEVER THE INPUT: true; the input reads as it did. -/
def rebuildReadsSpec : ChangeSpec := { name := "rebuildReads", fn := fun _ => fun
  | [d1, d2, d3] => { results := [.lit (.bool true)], args := [d1, d2, d3] }
  | _ => none }
def rebuildReadsRow : OpenClaim := { program := "ytnfgiamdmfkcjaadoor", sum := "37a88ef23535358abd1d4498d3678eadb352bab55b11850d0fb4257879749ce3", func := "mooring/mooringlaw23.RebuildReads", spec := "rebuildReads", unfollowed := true, recurses := true, named := ["unicode/utf8.first", "unicode/utf8.acceptRanges"], apart := false, laid := [("unicode/utf8.acceptRanges", laid_unicode_utf8_acceptRanges), ("unicode/utf8.first", laid_unicode_utf8_first)] }
def RebuildReadsSaid : Prop := rebuildReadsRow.holds Tryd.pinned (OpenSpec.ofChange rebuildReadsSpec)

/-- ITS FALSE NEIGHBOUR: 'it returns false'. Refute it at one input. -/
def rebuildReadsWrong : ChangeSpec := { name := "rebuildReads", fn := fun _ => fun
  | [d1, d2, d3] => { results := [.lit (.bool false)], args := [d1, d2, d3] }
  | _ => none }
def RebuildReadsWrongFalsely : Prop := rebuildReadsRow.holds Tryd.pinned (OpenSpec.ofChange rebuildReadsWrong)

/-- 'mooringlaw23.RebuildTwice': WHATEVER THE INPUT: true; the input reads as it did. -/
def rebuildTwiceSpec : ChangeSpec := { name := "rebuildTwice", fn := fun _ => fun
  | [d1, d2, d3] => { results := [.lit (.bool true)], args := [d1, d2, d3] }
  | _ => none }
def rebuildTwiceRow : OpenClaim := { program := "ytnfgiamdmfkcjaadoor", sum := "37a88ef23535358abd1d4498d3678eadb352bab55b11850d0fb4257879749ce3", func := "mooring/mooringlaw23.RebuildTwice", spec := "rebuildTwice", unfollowed := true, recurses := true, named := ["unicode/utf8.first", "unicode/utf8.acceptRanges"], apart := false, laid := [("unicode/utf8.acceptRanges", laid_unicode_utf8_acceptRanges), ("unicode/utf8.first", laid_unicode_utf8_first)] }
def RebuildTwiceSaid : Prop := rebuildTwiceRow.holds Tryd.pinned (OpenSpec.ofChange rebuildTwiceSpec)

/-- ITS FALSE NEIGHBOUR: 'it returns false'. Refute it at one input. -/
def rebuildTwiceWrong : ChangeSpec := { name := "rebuildTwice", fn := fun _ => fun
  | [d1, d2, d3] => { results := [.lit (.bool false)], args := [d1, d2, d3] }
  | _ => none }
def RebuildTwiceWrongFalsely : Prop := rebuildTwiceRow.holds Tryd.pinned (OpenSpec.ofChange rebuildTwiceWrong)

/- THE SECOND FORM. 'bulk': how many values and letters a reading holds, each counted each time it is reached (what is shared counts as often as it is met; a slice's spare places count too). A statement '..UptoSaid' is the law's where the arguments, and the package variables that the reading takes, are together of bulk at most 1048576: NARROWER than '..Said'. Prove '..Said' where nothing that the law and all that it calls make is longer than what came in: it says more and counts as full. Else prove '..UptoSaid'. A law counts once. -/
mutual
def uptoBulk {H : Type} : DataW H → Nat
  | .lit (.string bytes) => bytes.length + 1
  | .lit _ => 1
  | .nil => 1
  | .ptr d => uptoBulk d + 1
  | .slice elems spare => uptoBulkAll elems + uptoBulkAll spare + 1
  | .agg parts => uptoBulkAll parts + 1
  | .iface _ d => uptoBulk d + 1
  | .map entries => uptoBulkEntries entries + 1
  | .held _ => 1
def uptoBulkAll {H : Type} : List (DataW H) → Nat
  | [] => 0
  | d :: r => uptoBulk d + uptoBulkAll r
def uptoBulkEntries {H : Type} : List (Lit × DataW H) → Nat
  | [] => 0
  | x :: r => uptoBulkEntry x + uptoBulkEntries r
def uptoBulkEntry {H : Type} : Lit × DataW H → Nat
  | (.string bytes, d) => bytes.length + uptoBulk d + 1
  | (_, d) => uptoBulk d + 1
 end
def uptoSmall : (H : Type) → List (DataW H) → Bool := fun _ ds => decide (uptoBulkAll ds ≤ 1048576)
def OpenSpec.upto (s : _root_.Go.ChangeSpec) : _root_.Go.OpenSpec := { _root_.Go.OpenSpec.ofChange s with cond := some uptoSmall }

/-- 'mooringlaw20.StripeJoins', WHERE WHAT IT READS IS OF BULK AT MOST 1048576: true; the input reads as it did. -/
def stripeJoinsUptoRow : OpenClaim := { program := "ytnfgiamdmfkcjaadoor", sum := "37a88ef23535358abd1d4498d3678eadb352bab55b11850d0fb4257879749ce3", func := "mooring/mooringlaw20.StripeJoins", spec := "stripeJoins", unfollowed := true, recurses := true, named := ["unicode/utf8.first", "unicode/utf8.acceptRanges"], apart := false, laid := [("unicode/utf8.acceptRanges", laid_unicode_utf8_acceptRanges), ("unicode/utf8.first", laid_unicode_utf8_first)], narrowed := true }
def StripeJoinsUptoSaid : Prop := stripeJoinsUptoRow.holds Tryd.pinned (OpenSpec.upto stripeJoinsSpec)

/-- 'mooringlaw20.StripeRefuses', WHERE WHAT IT READS IS OF BULK AT MOST 1048576: true; the input reads as it did. -/
def stripeRefusesUptoRow : OpenClaim := { program := "ytnfgiamdmfkcjaadoor", sum := "37a88ef23535358abd1d4498d3678eadb352bab55b11850d0fb4257879749ce3", func := "mooring/mooringlaw20.StripeRefuses", spec := "stripeRefuses", unfollowed := true, recurses := true, named := ["unicode/utf8.first", "unicode/utf8.acceptRanges"], apart := false, laid := [("unicode/utf8.acceptRanges", laid_unicode_utf8_acceptRanges), ("unicode/utf8.first", laid_unicode_utf8_first)], narrowed := true }
def StripeRefusesUptoSaid : Prop := stripeRefusesUptoRow.holds Tryd.pinned (OpenSpec.upto stripeRefusesSpec)

/-- 'mooringlaw23.RebuildChunks', WHERE WHAT IT READS IS OF BULK AT MOST 1048576: true; the input reads as it did. -/
def rebuildChunksUptoRow : OpenClaim := { program := "ytnfgiamdmfkcjaadoor", sum := "37a88ef23535358abd1d4498d3678eadb352bab55b11850d0fb4257879749ce3", func := "mooring/mooringlaw23.RebuildChunks", spec := "rebuildChunks", unfollowed := true, recurses := true, named := ["unicode/utf8.first", "unicode/utf8.acceptRanges"], apart := false, laid := [("unicode/utf8.acceptRanges", laid_unicode_utf8_acceptRanges), ("unicode/utf8.first", laid_unicode_utf8_first)], narrowed := true }
def RebuildChunksUptoSaid : Prop := rebuildChunksUptoRow.holds Tryd.pinned (OpenSpec.upto rebuildChunksSpec)

/-- 'mooringlaw23.RebuildMakes', WHERE WHAT IT READS IS OF BULK AT MOST 1048576: true; the input reads as it did. -/
def rebuildMakesUptoRow : OpenClaim := { program := "ytnfgiamdmfkcjaadoor", sum := "37a88ef23535358abd1d4498d3678eadb352bab55b11850d0fb4257879749ce3", func := "mooring/mooringlaw23.RebuildMakes", spec := "rebuildMakes", unfollowed := true, recurses := true, named := ["unicode/utf8.first", "unicode/utf8.acceptRanges"], apart := false, laid := [("unicode/utf8.acceptRanges", laid_unicode_utf8_acceptRanges), ("unicode/utf8.first", laid_unicode_utf8_first)], narrowed := true }
def RebuildMakesUptoSaid : Prop := rebuildMakesUptoRow.holds Tryd.pinned (OpenSpec.upto rebuildMakesSpec)

/-- 'mooringlaw23.RebuildReads', WHERE WHAT IT READS IS OF BULK AT MOST 1048576: true; the input reads as it did. -/
def rebuildReadsUptoRow : OpenClaim := { program := "ytnfgiamdmfkcjaadoor", sum := "37a88ef23535358abd1d4498d3678eadb352bab55b11850d0fb4257879749ce3", func := "mooring/mooringlaw23.RebuildReads", spec := "rebuildReads", unfollowed := true, recurses := true, named := ["unicode/utf8.first", "unicode/utf8.acceptRanges"], apart := false, laid := [("unicode/utf8.acceptRanges", laid_unicode_utf8_acceptRanges), ("unicode/utf8.first", laid_unicode_utf8_first)], narrowed := true }
def RebuildReadsUptoSaid : Prop := rebuildReadsUptoRow.holds Tryd.pinned (OpenSpec.upto rebuildReadsSpec)

/-- 'mooringlaw23.RebuildTwice', WHERE WHAT IT READS IS OF BULK AT MOST 1048576: true; the input reads as it did. -/
def rebuildTwiceUptoRow : OpenClaim := { program := "ytnfgiamdmfkcjaadoor", sum := "37a88ef23535358abd1d4498d3678eadb352bab55b11850d0fb4257879749ce3", func := "mooring/mooringlaw23.RebuildTwice", spec := "rebuildTwice", unfollowed := true, recurses := true, named := ["unicode/utf8.first", "unicode/utf8.acceptRanges"], apart := false, laid := [("unicode/utf8.acceptRanges", laid_unicode_utf8_acceptRanges), ("unicode/utf8.first", laid_unicode_utf8_first)], narrowed := true }
def RebuildTwiceUptoSaid : Prop := rebuildTwiceUptoRow.holds Tryd.pinned (OpenSpec.upto rebuildTwiceSpec)

end Rows
end Go.Proofs.YtnfgiamdmfkcjaaDoor
