/-
  No cell of these rows narrows 'for every input' (looked for: loops, veiled, ifaces, maps, wideKeys, modest, calm, conditions, laid).
  DERIVED. THE GIVEN ROWS OF THIS SEAT. 21 by the template 'for every input the law returns true; each argument reads behind the call as it read before'; 0 by the template 'total and deterministic' (their statements: YtbogmlckbkogiaaTotals.lean).
  GIVEN WITH THE SEED: the statements are not yours to turn. If you find one false, say at which input.
  Laid BY PROGRAM, IN A SANDBOX (cutbox-rows.mjs): the forced cells as the released guide's own fill.sh prints them over the translation 09283116087e92af… (all of the seat's roots in one cut). By AI agents, Wed Nov 11 2026. No macro, syntax, notation, axiom, sorry.
-/
import Derived.Test.YtbogmlckbkogiaaChecked
import GoSem.Claim
import GoSem.ClaimJoined
import GoSem.ClaimMapViews
import Derived.JoinedTies
import Derived.KernelRfl
namespace Go.Proofs.Ytbogmlckbkogiaa
/- THE CELL 'sum', in the pinned program and in every row, IS THE sha256 OF THE DUMP (.gsa) THAT YtbogmlckbkogiaaProg.lean LOADS. Nothing in Lean hashes anything: it is a label: what it is worth is what the hold of that sum in a sandbox is worth. -/
noncomputable def Try.pinned : Pinned := { name := "ytbogmlckbkogiaa", sum := "09283116087e92af17a300075e5a9c8e3a3781a91126509fa14513dac7f672c9", checked := Try.checked }
namespace Rows
def none {H : Type} : Left H := { results := [], args := [] }

/-- 'mooringlaw04.SumBursts': WHATEVER THE INPUT: true; the input reads as it did. -/
def sumBurstsSpec : ChangeSpec := { name := "sumBursts", fn := fun _ => fun
  | [d1, d2, d3] => { results := [.lit (.bool true)], args := [d1, d2, d3] }
  | _ => none }
def sumBurstsRow : OpenClaim := { program := "ytbogmlckbkogiaa", sum := "09283116087e92af17a300075e5a9c8e3a3781a91126509fa14513dac7f672c9", func := "mooring/mooringlaw04.SumBursts", spec := "sumBursts", apart := false }
def SumBurstsSaid : Prop := sumBurstsRow.holds Try.pinned (OpenSpec.ofChange sumBurstsSpec)

/-- ITS FALSE NEIGHBOUR: 'it returns false'. Refute it at one input. -/
def sumBurstsWrong : ChangeSpec := { name := "sumBursts", fn := fun _ => fun
  | [d1, d2, d3] => { results := [.lit (.bool false)], args := [d1, d2, d3] }
  | _ => none }
def SumBurstsWrongFalsely : Prop := sumBurstsRow.holds Try.pinned (OpenSpec.ofChange sumBurstsWrong)

/-- 'mooringlaw01.GfField': WHATEVER THE INPUT: true; the input reads as it did. -/
def gfFieldSpec : ChangeSpec := { name := "gfField", fn := fun _ => fun
  | [d1, d2, d3] => { results := [.lit (.bool true)], args := [d1, d2, d3] }
  | _ => none }
def gfFieldRow : OpenClaim := { program := "ytbogmlckbkogiaa", sum := "09283116087e92af17a300075e5a9c8e3a3781a91126509fa14513dac7f672c9", func := "mooring/mooringlaw01.GfField", spec := "gfField", apart := false }
def GfFieldSaid : Prop := gfFieldRow.holds Try.pinned (OpenSpec.ofChange gfFieldSpec)

/-- ITS FALSE NEIGHBOUR: 'it returns false'. Refute it at one input. -/
def gfFieldWrong : ChangeSpec := { name := "gfField", fn := fun _ => fun
  | [d1, d2, d3] => { results := [.lit (.bool false)], args := [d1, d2, d3] }
  | _ => none }
def GfFieldWrongFalsely : Prop := gfFieldRow.holds Try.pinned (OpenSpec.ofChange gfFieldWrong)

/-- 'mooringlaw04.SumJoins': WHATEVER THE INPUT: true; the input reads as it did. -/
def sumJoinsSpec : ChangeSpec := { name := "sumJoins", fn := fun _ => fun
  | [d1, d2, d3] => { results := [.lit (.bool true)], args := [d1, d2, d3] }
  | _ => none }
def sumJoinsRow : OpenClaim := { program := "ytbogmlckbkogiaa", sum := "09283116087e92af17a300075e5a9c8e3a3781a91126509fa14513dac7f672c9", func := "mooring/mooringlaw04.SumJoins", spec := "sumJoins", apart := false }
def SumJoinsSaid : Prop := sumJoinsRow.holds Try.pinned (OpenSpec.ofChange sumJoinsSpec)

/-- ITS FALSE NEIGHBOUR: 'it returns false'. Refute it at one input. -/
def sumJoinsWrong : ChangeSpec := { name := "sumJoins", fn := fun _ => fun
  | [d1, d2, d3] => { results := [.lit (.bool false)], args := [d1, d2, d3] }
  | _ => none }
def SumJoinsWrongFalsely : Prop := sumJoinsRow.holds Try.pinned (OpenSpec.ofChange sumJoinsWrong)

/-- 'mooringlaw01.GfMuls': WHATEVER THE INPUT: true; the input reads as it did. -/
def gfMulsSpec : ChangeSpec := { name := "gfMuls", fn := fun _ => fun
  | [d1, d2] => { results := [.lit (.bool true)], args := [d1, d2] }
  | _ => none }
def gfMulsRow : OpenClaim := { program := "ytbogmlckbkogiaa", sum := "09283116087e92af17a300075e5a9c8e3a3781a91126509fa14513dac7f672c9", func := "mooring/mooringlaw01.GfMuls", spec := "gfMuls", apart := false }
def GfMulsSaid : Prop := gfMulsRow.holds Try.pinned (OpenSpec.ofChange gfMulsSpec)

/-- ITS FALSE NEIGHBOUR: 'it returns false'. Refute it at one input. -/
def gfMulsWrong : ChangeSpec := { name := "gfMuls", fn := fun _ => fun
  | [d1, d2] => { results := [.lit (.bool false)], args := [d1, d2] }
  | _ => none }
def GfMulsWrongFalsely : Prop := gfMulsRow.holds Try.pinned (OpenSpec.ofChange gfMulsWrong)

/-- 'mooringlaw04.SumOf': WHATEVER THE INPUT: true; the input reads as it did. -/
def sumOfSpec : ChangeSpec := { name := "sumOf", fn := fun _ => fun
  | [d] => { results := [.lit (.bool true)], args := [d] }
  | _ => none }
def sumOfRow : OpenClaim := { program := "ytbogmlckbkogiaa", sum := "09283116087e92af17a300075e5a9c8e3a3781a91126509fa14513dac7f672c9", func := "mooring/mooringlaw04.SumOf", spec := "sumOf", apart := false }
def SumOfSaid : Prop := sumOfRow.holds Try.pinned (OpenSpec.ofChange sumOfSpec)

/-- ITS FALSE NEIGHBOUR: 'it returns false'. Refute it at one input. -/
def sumOfWrong : ChangeSpec := { name := "sumOf", fn := fun _ => fun
  | [d] => { results := [.lit (.bool false)], args := [d] }
  | _ => none }
def SumOfWrongFalsely : Prop := sumOfRow.holds Try.pinned (OpenSpec.ofChange sumOfWrong)

/-- 'mooringlaw04.SumStrips': WHATEVER THE INPUT: true; the input reads as it did. -/
def sumStripsSpec : ChangeSpec := { name := "sumStrips", fn := fun _ => fun
  | [d] => { results := [.lit (.bool true)], args := [d] }
  | _ => none }
def sumStripsRow : OpenClaim := { program := "ytbogmlckbkogiaa", sum := "09283116087e92af17a300075e5a9c8e3a3781a91126509fa14513dac7f672c9", func := "mooring/mooringlaw04.SumStrips", spec := "sumStrips", apart := false }
def SumStripsSaid : Prop := sumStripsRow.holds Try.pinned (OpenSpec.ofChange sumStripsSpec)

/-- ITS FALSE NEIGHBOUR: 'it returns false'. Refute it at one input. -/
def sumStripsWrong : ChangeSpec := { name := "sumStrips", fn := fun _ => fun
  | [d] => { results := [.lit (.bool false)], args := [d] }
  | _ => none }
def SumStripsWrongFalsely : Prop := sumStripsRow.holds Try.pinned (OpenSpec.ofChange sumStripsWrong)

/-- 'mooringlaw01.GfPowers': WHATEVER THE INPUT: true; the input reads as it did. -/
def gfPowersSpec : ChangeSpec := { name := "gfPowers", fn := fun _ => fun
  | [d1, d2] => { results := [.lit (.bool true)], args := [d1, d2] }
  | _ => none }
def gfPowersRow : OpenClaim := { program := "ytbogmlckbkogiaa", sum := "09283116087e92af17a300075e5a9c8e3a3781a91126509fa14513dac7f672c9", func := "mooring/mooringlaw01.GfPowers", spec := "gfPowers", recurses := true, apart := false }
def GfPowersSaid : Prop := gfPowersRow.holds Try.pinned (OpenSpec.ofChange gfPowersSpec)

/-- ITS FALSE NEIGHBOUR: 'it returns false'. Refute it at one input. -/
def gfPowersWrong : ChangeSpec := { name := "gfPowers", fn := fun _ => fun
  | [d1, d2] => { results := [.lit (.bool false)], args := [d1, d2] }
  | _ => none }
def GfPowersWrongFalsely : Prop := gfPowersRow.holds Try.pinned (OpenSpec.ofChange gfPowersWrong)

/-- 'mooringlaw01.GfLists': WHATEVER THE INPUT: true; the input reads as it did. -/
def gfListsSpec : ChangeSpec := { name := "gfLists", fn := fun _ => fun
  | [d1, d2, d3] => { results := [.lit (.bool true)], args := [d1, d2, d3] }
  | _ => none }
def gfListsRow : OpenClaim := { program := "ytbogmlckbkogiaa", sum := "09283116087e92af17a300075e5a9c8e3a3781a91126509fa14513dac7f672c9", func := "mooring/mooringlaw01.GfLists", spec := "gfLists", apart := false }
def GfListsSaid : Prop := gfListsRow.holds Try.pinned (OpenSpec.ofChange gfListsSpec)

/-- ITS FALSE NEIGHBOUR: 'it returns false'. Refute it at one input. -/
def gfListsWrong : ChangeSpec := { name := "gfLists", fn := fun _ => fun
  | [d1, d2, d3] => { results := [.lit (.bool false)], args := [d1, d2, d3] }
  | _ => none }
def GfListsWrongFalsely : Prop := gfListsRow.holds Try.pinned (OpenSpec.ofChange gfListsWrong)

/-- 'mooringlaw02.MatrixInverts': WHATEVER THE INPUT: true; the input reads as it did. -/
def matrixInvertsSpec : ChangeSpec := { name := "matrixInverts", fn := fun _ => fun
  | [d] => { results := [.lit (.bool true)], args := [d] }
  | _ => none }
def matrixInvertsRow : OpenClaim := { program := "ytbogmlckbkogiaa", sum := "09283116087e92af17a300075e5a9c8e3a3781a91126509fa14513dac7f672c9", func := "mooring/mooringlaw02.MatrixInverts", spec := "matrixInverts", unfollowed := true, recurses := true, apart := false }
def MatrixInvertsSaid : Prop := matrixInvertsRow.holds Try.pinned (OpenSpec.ofChange matrixInvertsSpec)

/-- ITS FALSE NEIGHBOUR: 'it returns false'. Refute it at one input. -/
def matrixInvertsWrong : ChangeSpec := { name := "matrixInverts", fn := fun _ => fun
  | [d] => { results := [.lit (.bool false)], args := [d] }
  | _ => none }
def MatrixInvertsWrongFalsely : Prop := matrixInvertsRow.holds Try.pinned (OpenSpec.ofChange matrixInvertsWrong)

/-- 'mooringlaw20.StripeSplits': WHATEVER THE INPUT: true; the input reads as it did. -/
def stripeSplitsSpec : ChangeSpec := { name := "stripeSplits", fn := fun _ => fun
  | [d1, d2, d3] => { results := [.lit (.bool true)], args := [d1, d2, d3] }
  | _ => none }
def stripeSplitsRow : OpenClaim := { program := "ytbogmlckbkogiaa", sum := "09283116087e92af17a300075e5a9c8e3a3781a91126509fa14513dac7f672c9", func := "mooring/mooringlaw20.StripeSplits", spec := "stripeSplits", unfollowed := true, recurses := true, apart := false }
def StripeSplitsSaid : Prop := stripeSplitsRow.holds Try.pinned (OpenSpec.ofChange stripeSplitsSpec)

/-- ITS FALSE NEIGHBOUR: 'it returns false'. Refute it at one input. -/
def stripeSplitsWrong : ChangeSpec := { name := "stripeSplits", fn := fun _ => fun
  | [d1, d2, d3] => { results := [.lit (.bool false)], args := [d1, d2, d3] }
  | _ => none }
def StripeSplitsWrongFalsely : Prop := stripeSplitsRow.holds Try.pinned (OpenSpec.ofChange stripeSplitsWrong)

/-- 'mooringlaw02.MatrixMuls': WHATEVER THE INPUT: true; the input reads as it did. -/
def matrixMulsSpec : ChangeSpec := { name := "matrixMuls", fn := fun _ => fun
  | [d1, d2] => { results := [.lit (.bool true)], args := [d1, d2] }
  | _ => none }
def matrixMulsRow : OpenClaim := { program := "ytbogmlckbkogiaa", sum := "09283116087e92af17a300075e5a9c8e3a3781a91126509fa14513dac7f672c9", func := "mooring/mooringlaw02.MatrixMuls", spec := "matrixMuls", unfollowed := true, recurses := true, apart := false }
def MatrixMulsSaid : Prop := matrixMulsRow.holds Try.pinned (OpenSpec.ofChange matrixMulsSpec)

/-- ITS FALSE NEIGHBOUR: 'it returns false'. Refute it at one input. -/
def matrixMulsWrong : ChangeSpec := { name := "matrixMuls", fn := fun _ => fun
  | [d1, d2] => { results := [.lit (.bool false)], args := [d1, d2] }
  | _ => none }
def MatrixMulsWrongFalsely : Prop := matrixMulsRow.holds Try.pinned (OpenSpec.ofChange matrixMulsWrong)

/-- 'mooringlaw02.MatrixOrders': WHATEVER THE INPUT: true; the input reads as it did. -/
def matrixOrdersSpec : ChangeSpec := { name := "matrixOrders", fn := fun _ => fun
  | [d1, d2, d3] => { results := [.lit (.bool true)], args := [d1, d2, d3] }
  | _ => none }
def matrixOrdersRow : OpenClaim := { program := "ytbogmlckbkogiaa", sum := "09283116087e92af17a300075e5a9c8e3a3781a91126509fa14513dac7f672c9", func := "mooring/mooringlaw02.MatrixOrders", spec := "matrixOrders", unfollowed := true, recurses := true, apart := false }
def MatrixOrdersSaid : Prop := matrixOrdersRow.holds Try.pinned (OpenSpec.ofChange matrixOrdersSpec)

/-- ITS FALSE NEIGHBOUR: 'it returns false'. Refute it at one input. -/
def matrixOrdersWrong : ChangeSpec := { name := "matrixOrders", fn := fun _ => fun
  | [d1, d2, d3] => { results := [.lit (.bool false)], args := [d1, d2, d3] }
  | _ => none }
def MatrixOrdersWrongFalsely : Prop := matrixOrdersRow.holds Try.pinned (OpenSpec.ofChange matrixOrdersWrong)

/-- 'mooringlaw20.StripeTouches': WHATEVER THE INPUT: true; the input reads as it did. -/
def stripeTouchesSpec : ChangeSpec := { name := "stripeTouches", fn := fun _ => fun
  | [d1, d2, d3] => { results := [.lit (.bool true)], args := [d1, d2, d3] }
  | _ => none }
def stripeTouchesRow : OpenClaim := { program := "ytbogmlckbkogiaa", sum := "09283116087e92af17a300075e5a9c8e3a3781a91126509fa14513dac7f672c9", func := "mooring/mooringlaw20.StripeTouches", spec := "stripeTouches", unfollowed := true, recurses := true, apart := false }
def StripeTouchesSaid : Prop := stripeTouchesRow.holds Try.pinned (OpenSpec.ofChange stripeTouchesSpec)

/-- ITS FALSE NEIGHBOUR: 'it returns false'. Refute it at one input. -/
def stripeTouchesWrong : ChangeSpec := { name := "stripeTouches", fn := fun _ => fun
  | [d1, d2, d3] => { results := [.lit (.bool false)], args := [d1, d2, d3] }
  | _ => none }
def StripeTouchesWrongFalsely : Prop := stripeTouchesRow.holds Try.pinned (OpenSpec.ofChange stripeTouchesWrong)

/-- 'mooringlaw02.MatrixRows': WHATEVER THE INPUT: true; the input reads as it did. -/
def matrixRowsSpec : ChangeSpec := { name := "matrixRows", fn := fun _ => fun
  | [d1, d2, d3] => { results := [.lit (.bool true)], args := [d1, d2, d3] }
  | _ => none }
def matrixRowsRow : OpenClaim := { program := "ytbogmlckbkogiaa", sum := "09283116087e92af17a300075e5a9c8e3a3781a91126509fa14513dac7f672c9", func := "mooring/mooringlaw02.MatrixRows", spec := "matrixRows", unfollowed := true, recurses := true, apart := false }
def MatrixRowsSaid : Prop := matrixRowsRow.holds Try.pinned (OpenSpec.ofChange matrixRowsSpec)

/-- ITS FALSE NEIGHBOUR: 'it returns false'. Refute it at one input. -/
def matrixRowsWrong : ChangeSpec := { name := "matrixRows", fn := fun _ => fun
  | [d1, d2, d3] => { results := [.lit (.bool false)], args := [d1, d2, d3] }
  | _ => none }
def MatrixRowsWrongFalsely : Prop := matrixRowsRow.holds Try.pinned (OpenSpec.ofChange matrixRowsWrong)

/-- 'mooringlaw02.MatrixCauchy': WHATEVER THE INPUT: true; the input reads as it did. -/
def matrixCauchySpec : ChangeSpec := { name := "matrixCauchy", fn := fun _ => fun
  | [d1, d2, d3] => { results := [.lit (.bool true)], args := [d1, d2, d3] }
  | _ => none }
def matrixCauchyRow : OpenClaim := { program := "ytbogmlckbkogiaa", sum := "09283116087e92af17a300075e5a9c8e3a3781a91126509fa14513dac7f672c9", func := "mooring/mooringlaw02.MatrixCauchy", spec := "matrixCauchy", unfollowed := true, recurses := true, apart := false }
def MatrixCauchySaid : Prop := matrixCauchyRow.holds Try.pinned (OpenSpec.ofChange matrixCauchySpec)

/-- ITS FALSE NEIGHBOUR: 'it returns false'. Refute it at one input. -/
def matrixCauchyWrong : ChangeSpec := { name := "matrixCauchy", fn := fun _ => fun
  | [d1, d2, d3] => { results := [.lit (.bool false)], args := [d1, d2, d3] }
  | _ => none }
def MatrixCauchyWrongFalsely : Prop := matrixCauchyRow.holds Try.pinned (OpenSpec.ofChange matrixCauchyWrong)

/-- 'mooringlaw03.CodeEncodes': WHATEVER THE INPUT: true; the input reads as it did. -/
def codeEncodesSpec : ChangeSpec := { name := "codeEncodes", fn := fun _ => fun
  | [d1, d2, d3] => { results := [.lit (.bool true)], args := [d1, d2, d3] }
  | _ => none }
def codeEncodesRow : OpenClaim := { program := "ytbogmlckbkogiaa", sum := "09283116087e92af17a300075e5a9c8e3a3781a91126509fa14513dac7f672c9", func := "mooring/mooringlaw03.CodeEncodes", spec := "codeEncodes", unfollowed := true, recurses := true, apart := false }
def CodeEncodesSaid : Prop := codeEncodesRow.holds Try.pinned (OpenSpec.ofChange codeEncodesSpec)

/-- ITS FALSE NEIGHBOUR: 'it returns false'. Refute it at one input. -/
def codeEncodesWrong : ChangeSpec := { name := "codeEncodes", fn := fun _ => fun
  | [d1, d2, d3] => { results := [.lit (.bool false)], args := [d1, d2, d3] }
  | _ => none }
def CodeEncodesWrongFalsely : Prop := codeEncodesRow.holds Try.pinned (OpenSpec.ofChange codeEncodesWrong)

/-- 'mooringlaw03.CodeDecodes': WHATEVER THE INPUT: true; the input reads as it did. -/
def codeDecodesSpec : ChangeSpec := { name := "codeDecodes", fn := fun _ => fun
  | [d] => { results := [.lit (.bool true)], args := [d] }
  | _ => none }
def codeDecodesRow : OpenClaim := { program := "ytbogmlckbkogiaa", sum := "09283116087e92af17a300075e5a9c8e3a3781a91126509fa14513dac7f672c9", func := "mooring/mooringlaw03.CodeDecodes", spec := "codeDecodes", unfollowed := true, recurses := true, apart := false }
def CodeDecodesSaid : Prop := codeDecodesRow.holds Try.pinned (OpenSpec.ofChange codeDecodesSpec)

/-- ITS FALSE NEIGHBOUR: 'it returns false'. Refute it at one input. -/
def codeDecodesWrong : ChangeSpec := { name := "codeDecodes", fn := fun _ => fun
  | [d] => { results := [.lit (.bool false)], args := [d] }
  | _ => none }
def CodeDecodesWrongFalsely : Prop := codeDecodesRow.holds Try.pinned (OpenSpec.ofChange codeDecodesWrong)

/-- 'mooringlaw03.CodeRefuses': WHATEVER THE INPUT: true; the input reads as it did. -/
def codeRefusesSpec : ChangeSpec := { name := "codeRefuses", fn := fun _ => fun
  | [d1, d2, d3] => { results := [.lit (.bool true)], args := [d1, d2, d3] }
  | _ => none }
def codeRefusesRow : OpenClaim := { program := "ytbogmlckbkogiaa", sum := "09283116087e92af17a300075e5a9c8e3a3781a91126509fa14513dac7f672c9", func := "mooring/mooringlaw03.CodeRefuses", spec := "codeRefuses", unfollowed := true, recurses := true, apart := false }
def CodeRefusesSaid : Prop := codeRefusesRow.holds Try.pinned (OpenSpec.ofChange codeRefusesSpec)

/-- ITS FALSE NEIGHBOUR: 'it returns false'. Refute it at one input. -/
def codeRefusesWrong : ChangeSpec := { name := "codeRefuses", fn := fun _ => fun
  | [d1, d2, d3] => { results := [.lit (.bool false)], args := [d1, d2, d3] }
  | _ => none }
def CodeRefusesWrongFalsely : Prop := codeRefusesRow.holds Try.pinned (OpenSpec.ofChange codeRefusesWrong)

/-- 'mooringlaw20.StripeTurns': WHATEVER THE INPUT: true; the input reads as it did. -/
def stripeTurnsSpec : ChangeSpec := { name := "stripeTurns", fn := fun _ => fun
  | [d1, d2, d3] => { results := [.lit (.bool true)], args := [d1, d2, d3] }
  | _ => none }
def stripeTurnsRow : OpenClaim := { program := "ytbogmlckbkogiaa", sum := "09283116087e92af17a300075e5a9c8e3a3781a91126509fa14513dac7f672c9", func := "mooring/mooringlaw20.StripeTurns", spec := "stripeTurns", unfollowed := true, recurses := true, apart := false }
def StripeTurnsSaid : Prop := stripeTurnsRow.holds Try.pinned (OpenSpec.ofChange stripeTurnsSpec)

/-- ITS FALSE NEIGHBOUR: 'it returns false'. Refute it at one input. -/
def stripeTurnsWrong : ChangeSpec := { name := "stripeTurns", fn := fun _ => fun
  | [d1, d2, d3] => { results := [.lit (.bool false)], args := [d1, d2, d3] }
  | _ => none }
def StripeTurnsWrongFalsely : Prop := stripeTurnsRow.holds Try.pinned (OpenSpec.ofChange stripeTurnsWrong)

/-- 'mooringlaw03.CodeChecks': WHATEVER THE INPUT: true; the input reads as it did. -/
def codeChecksSpec : ChangeSpec := { name := "codeChecks", fn := fun _ => fun
  | [d1, d2, d3] => { results := [.lit (.bool true)], args := [d1, d2, d3] }
  | _ => none }
def codeChecksRow : OpenClaim := { program := "ytbogmlckbkogiaa", sum := "09283116087e92af17a300075e5a9c8e3a3781a91126509fa14513dac7f672c9", func := "mooring/mooringlaw03.CodeChecks", spec := "codeChecks", unfollowed := true, recurses := true, apart := false }
def CodeChecksSaid : Prop := codeChecksRow.holds Try.pinned (OpenSpec.ofChange codeChecksSpec)

/-- ITS FALSE NEIGHBOUR: 'it returns false'. Refute it at one input. -/
def codeChecksWrong : ChangeSpec := { name := "codeChecks", fn := fun _ => fun
  | [d1, d2, d3] => { results := [.lit (.bool false)], args := [d1, d2, d3] }
  | _ => none }
def CodeChecksWrongFalsely : Prop := codeChecksRow.holds Try.pinned (OpenSpec.ofChange codeChecksWrong)

/-- 'mooringlaw03.CodeTurns': WHATEVER THE INPUT: true; the input reads as it did. -/
def codeTurnsSpec : ChangeSpec := { name := "codeTurns", fn := fun _ => fun
  | [d1, d2, d3] => { results := [.lit (.bool true)], args := [d1, d2, d3] }
  | _ => none }
def codeTurnsRow : OpenClaim := { program := "ytbogmlckbkogiaa", sum := "09283116087e92af17a300075e5a9c8e3a3781a91126509fa14513dac7f672c9", func := "mooring/mooringlaw03.CodeTurns", spec := "codeTurns", unfollowed := true, recurses := true, apart := false }
def CodeTurnsSaid : Prop := codeTurnsRow.holds Try.pinned (OpenSpec.ofChange codeTurnsSpec)

/-- ITS FALSE NEIGHBOUR: 'it returns false'. Refute it at one input. -/
def codeTurnsWrong : ChangeSpec := { name := "codeTurns", fn := fun _ => fun
  | [d1, d2, d3] => { results := [.lit (.bool false)], args := [d1, d2, d3] }
  | _ => none }
def CodeTurnsWrongFalsely : Prop := codeTurnsRow.holds Try.pinned (OpenSpec.ofChange codeTurnsWrong)

/- THE SECOND FORM. 'bulk': how many values and letters a reading holds, each counted each time it is reached (what is shared counts as often as it is met; a slice's spare places count too). A statement '..UptoSaid' is the law's where the arguments, and the package variables that the reading takes, are together of bulk at most 1048576: NARROWER than '..Said'. Prove '..Said' where nothing that the law and all that it calls make is longer than what came in: it says more and counts as full. Else prove '..UptoSaid'. A law counts once. -/
mutual
def uptoBulk {H : Type} : DataW H → Nat
  | .lit (.string bytes) => bytes.length + 1
  | .lit _ => 1
  | .nil => 1
  | .ptr d => uptoBulk d + 1
  | .slice elems spare => uptoBulkAll elems + uptoBulkAll spare + 1
  | .agg parts => uptoBulkAll parts + 1
  | .iface _ d => uptoBulk d + 1
  | .map entries => uptoBulkEntries entries + 1
  | .held _ => 1
def uptoBulkAll {H : Type} : List (DataW H) → Nat
  | [] => 0
  | d :: r => uptoBulk d + uptoBulkAll r
def uptoBulkEntries {H : Type} : List (Lit × DataW H) → Nat
  | [] => 0
  | x :: r => uptoBulkEntry x + uptoBulkEntries r
def uptoBulkEntry {H : Type} : Lit × DataW H → Nat
  | (.string bytes, d) => bytes.length + uptoBulk d + 1
  | (_, d) => uptoBulk d + 1
 end
def uptoSmall : (H : Type) → List (DataW H) → Bool := fun _ ds => decide (uptoBulkAll ds ≤ 1048576)
def OpenSpec.upto (s : _root_.Go.ChangeSpec) : _root_.Go.OpenSpec := { _root_.Go.OpenSpec.ofChange s with cond := some uptoSmall }

/-- 'mooringlaw04.SumBursts', WHERE WHAT IT READS IS OF BULK AT MOST 1048576: true; the input reads as it did. -/
def sumBurstsUptoRow : OpenClaim := { program := "ytbogmlckbkogiaa", sum := "09283116087e92af17a300075e5a9c8e3a3781a91126509fa14513dac7f672c9", func := "mooring/mooringlaw04.SumBursts", spec := "sumBursts", apart := false, narrowed := true }
def SumBurstsUptoSaid : Prop := sumBurstsUptoRow.holds Try.pinned (OpenSpec.upto sumBurstsSpec)

/-- 'mooringlaw01.GfField', WHERE WHAT IT READS IS OF BULK AT MOST 1048576: true; the input reads as it did. -/
def gfFieldUptoRow : OpenClaim := { program := "ytbogmlckbkogiaa", sum := "09283116087e92af17a300075e5a9c8e3a3781a91126509fa14513dac7f672c9", func := "mooring/mooringlaw01.GfField", spec := "gfField", apart := false, narrowed := true }
def GfFieldUptoSaid : Prop := gfFieldUptoRow.holds Try.pinned (OpenSpec.upto gfFieldSpec)

/-- 'mooringlaw04.SumJoins', WHERE WHAT IT READS IS OF BULK AT MOST 1048576: true; the input reads as it did. -/
def sumJoinsUptoRow : OpenClaim := { program := "ytbogmlckbkogiaa", sum := "09283116087e92af17a300075e5a9c8e3a3781a91126509fa14513dac7f672c9", func := "mooring/mooringlaw04.SumJoins", spec := "sumJoins", apart := false, narrowed := true }
def SumJoinsUptoSaid : Prop := sumJoinsUptoRow.holds Try.pinned (OpenSpec.upto sumJoinsSpec)

/-- 'mooringlaw01.GfMuls', WHERE WHAT IT READS IS OF BULK AT MOST 1048576: true; the input reads as it did. -/
def gfMulsUptoRow : OpenClaim := { program := "ytbogmlckbkogiaa", sum := "09283116087e92af17a300075e5a9c8e3a3781a91126509fa14513dac7f672c9", func := "mooring/mooringlaw01.GfMuls", spec := "gfMuls", apart := false, narrowed := true }
def GfMulsUptoSaid : Prop := gfMulsUptoRow.holds Try.pinned (OpenSpec.upto gfMulsSpec)

/-- 'mooringlaw04.SumOf', WHERE WHAT IT READS IS OF BULK AT MOST 1048576: true; the input reads as it did. -/
def sumOfUptoRow : OpenClaim := { program := "ytbogmlckbkogiaa", sum := "09283116087e92af17a300075e5a9c8e3a3781a91126509fa14513dac7f672c9", func := "mooring/mooringlaw04.SumOf", spec := "sumOf", apart := false, narrowed := true }
def SumOfUptoSaid : Prop := sumOfUptoRow.holds Try.pinned (OpenSpec.upto sumOfSpec)

/-- 'mooringlaw04.SumStrips', WHERE WHAT IT READS IS OF BULK AT MOST 1048576: true; the input reads as it did. -/
def sumStripsUptoRow : OpenClaim := { program := "ytbogmlckbkogiaa", sum := "09283116087e92af17a300075e5a9c8e3a3781a91126509fa14513dac7f672c9", func := "mooring/mooringlaw04.SumStrips", spec := "sumStrips", apart := false, narrowed := true }
def SumStripsUptoSaid : Prop := sumStripsUptoRow.holds Try.pinned (OpenSpec.upto sumStripsSpec)

/-- 'mooringlaw01.GfPowers', WHERE WHAT IT READS IS OF BULK AT MOST 1048576: true; the input reads as it did. -/
def gfPowersUptoRow : OpenClaim := { program := "ytbogmlckbkogiaa", sum := "09283116087e92af17a300075e5a9c8e3a3781a91126509fa14513dac7f672c9", func := "mooring/mooringlaw01.GfPowers", spec := "gfPowers", recurses := true, apart := false, narrowed := true }
def GfPowersUptoSaid : Prop := gfPowersUptoRow.holds Try.pinned (OpenSpec.upto gfPowersSpec)

/-- 'mooringlaw01.GfLists', WHERE WHAT IT READS IS OF BULK AT MOST 1048576: true; the input reads as it did. -/
def gfListsUptoRow : OpenClaim := { program := "ytbogmlckbkogiaa", sum := "09283116087e92af17a300075e5a9c8e3a3781a91126509fa14513dac7f672c9", func := "mooring/mooringlaw01.GfLists", spec := "gfLists", apart := false, narrowed := true }
def GfListsUptoSaid : Prop := gfListsUptoRow.holds Try.pinned (OpenSpec.upto gfListsSpec)

/-- 'mooringlaw02.MatrixInverts', WHERE WHAT IT READS IS OF BULK AT MOST 1048576: true; the input reads as it did. -/
def matrixInvertsUptoRow : OpenClaim := { program := "ytbogmlckbkogiaa", sum := "09283116087e92af17a300075e5a9c8e3a3781a91126509fa14513dac7f672c9", func := "mooring/mooringlaw02.MatrixInverts", spec := "matrixInverts", unfollowed := true, recurses := true, apart := false, narrowed := true }
def MatrixInvertsUptoSaid : Prop := matrixInvertsUptoRow.holds Try.pinned (OpenSpec.upto matrixInvertsSpec)

/-- 'mooringlaw20.StripeSplits', WHERE WHAT IT READS IS OF BULK AT MOST 1048576: true; the input reads as it did. -/
def stripeSplitsUptoRow : OpenClaim := { program := "ytbogmlckbkogiaa", sum := "09283116087e92af17a300075e5a9c8e3a3781a91126509fa14513dac7f672c9", func := "mooring/mooringlaw20.StripeSplits", spec := "stripeSplits", unfollowed := true, recurses := true, apart := false, narrowed := true }
def StripeSplitsUptoSaid : Prop := stripeSplitsUptoRow.holds Try.pinned (OpenSpec.upto stripeSplitsSpec)

/-- 'mooringlaw02.MatrixMuls', WHERE WHAT IT READS IS OF BULK AT MOST 1048576: true; the input reads as it did. -/
def matrixMulsUptoRow : OpenClaim := { program := "ytbogmlckbkogiaa", sum := "09283116087e92af17a300075e5a9c8e3a3781a91126509fa14513dac7f672c9", func := "mooring/mooringlaw02.MatrixMuls", spec := "matrixMuls", unfollowed := true, recurses := true, apart := false, narrowed := true }
def MatrixMulsUptoSaid : Prop := matrixMulsUptoRow.holds Try.pinned (OpenSpec.upto matrixMulsSpec)

/-- 'mooringlaw02.MatrixOrders', WHERE WHAT IT READS IS OF BULK AT MOST 1048576: true; the input reads as it did. -/
def matrixOrdersUptoRow : OpenClaim := { program := "ytbogmlckbkogiaa", sum := "09283116087e92af17a300075e5a9c8e3a3781a91126509fa14513dac7f672c9", func := "mooring/mooringlaw02.MatrixOrders", spec := "matrixOrders", unfollowed := true, recurses := true, apart := false, narrowed := true }
def MatrixOrdersUptoSaid : Prop := matrixOrdersUptoRow.holds Try.pinned (OpenSpec.upto matrixOrdersSpec)

/-- 'mooringlaw20.StripeTouches', WHERE WHAT IT READS IS OF BULK AT MOST 1048576: true; the input reads as it did. -/
def stripeTouchesUptoRow : OpenClaim := { program := "ytbogmlckbkogiaa", sum := "09283116087e92af17a300075e5a9c8e3a3781a91126509fa14513dac7f672c9", func := "mooring/mooringlaw20.StripeTouches", spec := "stripeTouches", unfollowed := true, recurses := true, apart := false, narrowed := true }
def StripeTouchesUptoSaid : Prop := stripeTouchesUptoRow.holds Try.pinned (OpenSpec.upto stripeTouchesSpec)

/-- 'mooringlaw02.MatrixRows', WHERE WHAT IT READS IS OF BULK AT MOST 1048576: true; the input reads as it did. -/
def matrixRowsUptoRow : OpenClaim := { program := "ytbogmlckbkogiaa", sum := "09283116087e92af17a300075e5a9c8e3a3781a91126509fa14513dac7f672c9", func := "mooring/mooringlaw02.MatrixRows", spec := "matrixRows", unfollowed := true, recurses := true, apart := false, narrowed := true }
def MatrixRowsUptoSaid : Prop := matrixRowsUptoRow.holds Try.pinned (OpenSpec.upto matrixRowsSpec)

/-- 'mooringlaw02.MatrixCauchy', WHERE WHAT IT READS IS OF BULK AT MOST 1048576: true; the input reads as it did. -/
def matrixCauchyUptoRow : OpenClaim := { program := "ytbogmlckbkogiaa", sum := "09283116087e92af17a300075e5a9c8e3a3781a91126509fa14513dac7f672c9", func := "mooring/mooringlaw02.MatrixCauchy", spec := "matrixCauchy", unfollowed := true, recurses := true, apart := false, narrowed := true }
def MatrixCauchyUptoSaid : Prop := matrixCauchyUptoRow.holds Try.pinned (OpenSpec.upto matrixCauchySpec)

/-- 'mooringlaw03.CodeEncodes', WHERE WHAT IT READS IS OF BULK AT MOST 1048576: true; the input reads as it did. -/
def codeEncodesUptoRow : OpenClaim := { program := "ytbogmlckbkogiaa", sum := "09283116087e92af17a300075e5a9c8e3a3781a91126509fa14513dac7f672c9", func := "mooring/mooringlaw03.CodeEncodes", spec := "codeEncodes", unfollowed := true, recurses := true, apart := false, narrowed := true }
def CodeEncodesUptoSaid : Prop := codeEncodesUptoRow.holds Try.pinned (OpenSpec.upto codeEncodesSpec)

/-- 'mooringlaw03.CodeDecodes', WHERE WHAT IT READS IS OF BULK AT MOST 1048576: true; the input reads as it did. -/
def codeDecodesUptoRow : OpenClaim := { program := "ytbogmlckbkogiaa", sum := "09283116087e92af17a300075e5a9c8e3a3781a91126509fa14513dac7f672c9", func := "mooring/mooringlaw03.CodeDecodes", spec := "codeDecodes", unfollowed := true, recurses := true, apart := false, narrowed := true }
def CodeDecodesUptoSaid : Prop := codeDecodesUptoRow.holds Try.pinned (OpenSpec.upto codeDecodesSpec)

/-- 'mooringlaw03.CodeRefuses', WHERE WHAT IT READS IS OF BULK AT MOST 1048576: true; the input reads as it did. -/
def codeRefusesUptoRow : OpenClaim := { program := "ytbogmlckbkogiaa", sum := "09283116087e92af17a300075e5a9c8e3a3781a91126509fa14513dac7f672c9", func := "mooring/mooringlaw03.CodeRefuses", spec := "codeRefuses", unfollowed := true, recurses := true, apart := false, narrowed := true }
def CodeRefusesUptoSaid : Prop := codeRefusesUptoRow.holds Try.pinned (OpenSpec.upto codeRefusesSpec)

/-- 'mooringlaw20.StripeTurns', WHERE WHAT IT READS IS OF BULK AT MOST 1048576: true; the input reads as it did. -/
def stripeTurnsUptoRow : OpenClaim := { program := "ytbogmlckbkogiaa", sum := "09283116087e92af17a300075e5a9c8e3a3781a91126509fa14513dac7f672c9", func := "mooring/mooringlaw20.StripeTurns", spec := "stripeTurns", unfollowed := true, recurses := true, apart := false, narrowed := true }
def StripeTurnsUptoSaid : Prop := stripeTurnsUptoRow.holds Try.pinned (OpenSpec.upto stripeTurnsSpec)

/-- 'mooringlaw03.CodeChecks', WHERE WHAT IT READS IS OF BULK AT MOST 1048576: true; the input reads as it did. -/
def codeChecksUptoRow : OpenClaim := { program := "ytbogmlckbkogiaa", sum := "09283116087e92af17a300075e5a9c8e3a3781a91126509fa14513dac7f672c9", func := "mooring/mooringlaw03.CodeChecks", spec := "codeChecks", unfollowed := true, recurses := true, apart := false, narrowed := true }
def CodeChecksUptoSaid : Prop := codeChecksUptoRow.holds Try.pinned (OpenSpec.upto codeChecksSpec)

/-- 'mooringlaw03.CodeTurns', WHERE WHAT IT READS IS OF BULK AT MOST 1048576: true; the input reads as it did. -/
def codeTurnsUptoRow : OpenClaim := { program := "ytbogmlckbkogiaa", sum := "09283116087e92af17a300075e5a9c8e3a3781a91126509fa14513dac7f672c9", func := "mooring/mooringlaw03.CodeTurns", spec := "codeTurns", unfollowed := true, recurses := true, apart := false, narrowed := true }
def CodeTurnsUptoSaid : Prop := codeTurnsUptoRow.holds Try.pinned (OpenSpec.upto codeTurnsSpec)

end Rows
end Go.Proofs.Ytbogmlckbkogiaa
