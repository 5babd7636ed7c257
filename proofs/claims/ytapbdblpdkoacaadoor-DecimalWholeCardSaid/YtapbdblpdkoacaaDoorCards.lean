/-
  DERIVED. GIVEN WITH THE SEED: THE CARDS: each row of YtapbdblpdkoacaaDoorRows.lean that lists a variable, with what it lists TIED to the program's text (the seventh form; the later family's looks); each row that meets fmt, with fmt's text TOLD by the authors' own Lean function (tested against real Go, not proved from fmt's source: count such statements apart). THE CARD IS WHAT COUNTS. Prove the row's statement (the work); the ties are given (YtapbdblpdkoacaaDoorTie.lean); close each card by the builder's one call (the guide's Derived/Test/ToyasCard.lean, 'card_holds'). Laid BY PROGRAM, IN A SANDBOX (cutbox-door.mjs). By AI agents, Wed Nov 11 2026. No macro, syntax, notation, axiom, sorry.
-/
import Derived.Test.YtapbdblpdkoacaaDoorRows
import GoSem.ClaimSeven
namespace Go.Proofs.YtapbdblpdkoacaaDoor
namespace Rows

/-- THE TIED CARD OF 'idiomlaw02.DecimalChecks'. -/
def decimalChecksCard : Claim7 := { stood := { row := decimalChecksRow, standIns := [], harness := (true, "85b5d7e9e710df72cb32900735420375226d09b782d570b81079f4ef01777d3c"), looks := true }, kinds := [], alts := [], laidByText := true, laidKinds := [.data, .pinned], laidTests := true, laidLooks := .later }
def DecimalChecksCardSaid : Prop := Claim7.holds Tryd.pinned (.plain (OpenSpec.ofChange decimalChecksSpec)) decimalChecksCard

/-- THE TIED CARD OF 'idiomlaw02.DecimalReads'. -/
def decimalReadsCard : Claim7 := { stood := { row := decimalReadsRow, standIns := [], harness := (true, "85b5d7e9e710df72cb32900735420375226d09b782d570b81079f4ef01777d3c"), looks := true }, kinds := [], alts := [], laidByText := true, laidKinds := [.data, .pinned], laidTests := true, laidLooks := .later }
def DecimalReadsCardSaid : Prop := Claim7.holds Tryd.pinned (.plain (OpenSpec.ofChange decimalReadsSpec)) decimalReadsCard

/-- THE TIED CARD OF 'idiomlaw02.DecimalBack'. -/
def decimalBackCard : Claim7 := { stood := { row := decimalBackRow, standIns := [], harness := (true, "85b5d7e9e710df72cb32900735420375226d09b782d570b81079f4ef01777d3c"), looks := true }, kinds := [], alts := [], laidByText := true, laidKinds := [.data, .pinned], laidTests := true, laidLooks := .later }
def DecimalBackCardSaid : Prop := Claim7.holds Tryd.pinned (.plain (OpenSpec.ofChange decimalBackSpec)) decimalBackCard

/-- THE TIED CARD OF 'idiomlaw02.DecimalDivides'. -/
def decimalDividesCard : Claim7 := { stood := { row := decimalDividesRow, standIns := [], harness := (true, "85b5d7e9e710df72cb32900735420375226d09b782d570b81079f4ef01777d3c"), looks := true }, kinds := [], alts := [], laidByText := true, laidKinds := [.data, .pinned], laidTests := true, laidLooks := .later }
def DecimalDividesCardSaid : Prop := Claim7.holds Tryd.pinned (.plain (OpenSpec.ofChange decimalDividesSpec)) decimalDividesCard

/-- THE TIED CARD OF 'idiomlaw02.DecimalOrder'. -/
def decimalOrderCard : Claim7 := { stood := { row := decimalOrderRow, standIns := [], harness := (true, "85b5d7e9e710df72cb32900735420375226d09b782d570b81079f4ef01777d3c"), looks := true }, kinds := [], alts := [], laidByText := true, laidKinds := [.data, .pinned], laidTests := true, laidLooks := .later }
def DecimalOrderCardSaid : Prop := Claim7.holds Tryd.pinned (.plain (OpenSpec.ofChange decimalOrderSpec)) decimalOrderCard

/-- THE TIED CARD OF 'idiomlaw02.DecimalSums'. -/
def decimalSumsCard : Claim7 := { stood := { row := decimalSumsRow, standIns := [], harness := (true, "85b5d7e9e710df72cb32900735420375226d09b782d570b81079f4ef01777d3c"), looks := true }, kinds := [], alts := [], laidByText := true, laidKinds := [.data, .pinned], laidTests := true, laidLooks := .later }
def DecimalSumsCardSaid : Prop := Claim7.holds Tryd.pinned (.plain (OpenSpec.ofChange decimalSumsSpec)) decimalSumsCard

/-- THE TIED CARD OF 'idiomlaw02.DecimalRing'. -/
def decimalRingCard : Claim7 := { stood := { row := decimalRingRow, standIns := [], harness := (true, "85b5d7e9e710df72cb32900735420375226d09b782d570b81079f4ef01777d3c"), looks := true }, kinds := [], alts := [], laidByText := true, laidKinds := [.data, .pinned], laidTests := true, laidLooks := .later }
def DecimalRingCardSaid : Prop := Claim7.holds Tryd.pinned (.plain (OpenSpec.ofChange decimalRingSpec)) decimalRingCard

/-- THE TIED CARD OF 'idiomlaw02.DecimalInts'. -/
def decimalIntsCard : Claim7 := { stood := { row := decimalIntsRow, standIns := [], harness := (true, "85b5d7e9e710df72cb32900735420375226d09b782d570b81079f4ef01777d3c"), looks := true }, kinds := [], alts := [], laidByText := true, laidKinds := [.data, .pinned], laidTests := true, laidLooks := .later }
def DecimalIntsCardSaid : Prop := Claim7.holds Tryd.pinned (.plain (OpenSpec.ofChange decimalIntsSpec)) decimalIntsCard

/-- THE TIED CARD OF 'idiomlaw02.DecimalRest'. -/
def decimalRestCard : Claim7 := { stood := { row := decimalRestRow, standIns := [], harness := (true, "85b5d7e9e710df72cb32900735420375226d09b782d570b81079f4ef01777d3c"), looks := true }, kinds := [], alts := [], laidByText := true, laidKinds := [.data, .pinned], laidTests := true, laidLooks := .later }
def DecimalRestCardSaid : Prop := Claim7.holds Tryd.pinned (.plain (OpenSpec.ofChange decimalRestSpec)) decimalRestCard

/-- THE TIED CARD OF 'idiomlaw02.DecimalMoves'. -/
def decimalMovesCard : Claim7 := { stood := { row := decimalMovesRow, standIns := [], harness := (true, "85b5d7e9e710df72cb32900735420375226d09b782d570b81079f4ef01777d3c"), looks := true }, kinds := [], alts := [], laidByText := true, laidKinds := [.data, .pinned], laidTests := true, laidLooks := .later }
def DecimalMovesCardSaid : Prop := Claim7.holds Tryd.pinned (.plain (OpenSpec.ofChange decimalMovesSpec)) decimalMovesCard

/-- THE TIED CARD OF 'idiomlaw02.DecimalShifts'. -/
def decimalShiftsCard : Claim7 := { stood := { row := decimalShiftsRow, standIns := [], harness := (true, "85b5d7e9e710df72cb32900735420375226d09b782d570b81079f4ef01777d3c"), looks := true }, kinds := [], alts := [], laidByText := true, laidKinds := [.data, .pinned], laidTests := true, laidLooks := .later }
def DecimalShiftsCardSaid : Prop := Claim7.holds Tryd.pinned (.plain (OpenSpec.ofChange decimalShiftsSpec)) decimalShiftsCard

/-- THE TIED CARD OF 'idiomlaw02.DecimalWhole'. -/
def decimalWholeCard : Claim7 := { stood := { row := decimalWholeRow, standIns := [], harness := (true, "85b5d7e9e710df72cb32900735420375226d09b782d570b81079f4ef01777d3c"), looks := true }, kinds := [], alts := [], laidByText := true, laidKinds := [.data, .data, .data, .data, .sentinel, .sentinel, .pinned], laidTests := true, laidLooks := .later }
def DecimalWholeCardSaid : Prop := Claim7.holds Tryd.pinned (.plain (OpenSpec.ofChange decimalWholeSpec)) decimalWholeCard

/-- THE SECOND FORM's CARD OF 'idiomlaw02.DecimalChecks'. -/
def decimalChecksUptoCard : Claim7 := { stood := { row := decimalChecksUptoRow, standIns := [], harness := (true, "85b5d7e9e710df72cb32900735420375226d09b782d570b81079f4ef01777d3c"), looks := true }, kinds := [], alts := [], laidByText := true, laidKinds := [.data, .pinned], laidTests := true, laidLooks := .later }
def DecimalChecksUptoCardSaid : Prop := Claim7.holds Tryd.pinned (.plain (OpenSpec.upto decimalChecksSpec)) decimalChecksUptoCard

/-- THE SECOND FORM's CARD OF 'idiomlaw02.DecimalReads'. -/
def decimalReadsUptoCard : Claim7 := { stood := { row := decimalReadsUptoRow, standIns := [], harness := (true, "85b5d7e9e710df72cb32900735420375226d09b782d570b81079f4ef01777d3c"), looks := true }, kinds := [], alts := [], laidByText := true, laidKinds := [.data, .pinned], laidTests := true, laidLooks := .later }
def DecimalReadsUptoCardSaid : Prop := Claim7.holds Tryd.pinned (.plain (OpenSpec.upto decimalReadsSpec)) decimalReadsUptoCard

/-- THE SECOND FORM's CARD OF 'idiomlaw02.DecimalBack'. -/
def decimalBackUptoCard : Claim7 := { stood := { row := decimalBackUptoRow, standIns := [], harness := (true, "85b5d7e9e710df72cb32900735420375226d09b782d570b81079f4ef01777d3c"), looks := true }, kinds := [], alts := [], laidByText := true, laidKinds := [.data, .pinned], laidTests := true, laidLooks := .later }
def DecimalBackUptoCardSaid : Prop := Claim7.holds Tryd.pinned (.plain (OpenSpec.upto decimalBackSpec)) decimalBackUptoCard

/-- THE SECOND FORM's CARD OF 'idiomlaw02.DecimalDivides'. -/
def decimalDividesUptoCard : Claim7 := { stood := { row := decimalDividesUptoRow, standIns := [], harness := (true, "85b5d7e9e710df72cb32900735420375226d09b782d570b81079f4ef01777d3c"), looks := true }, kinds := [], alts := [], laidByText := true, laidKinds := [.data, .pinned], laidTests := true, laidLooks := .later }
def DecimalDividesUptoCardSaid : Prop := Claim7.holds Tryd.pinned (.plain (OpenSpec.upto decimalDividesSpec)) decimalDividesUptoCard

/-- THE SECOND FORM's CARD OF 'idiomlaw02.DecimalOrder'. -/
def decimalOrderUptoCard : Claim7 := { stood := { row := decimalOrderUptoRow, standIns := [], harness := (true, "85b5d7e9e710df72cb32900735420375226d09b782d570b81079f4ef01777d3c"), looks := true }, kinds := [], alts := [], laidByText := true, laidKinds := [.data, .pinned], laidTests := true, laidLooks := .later }
def DecimalOrderUptoCardSaid : Prop := Claim7.holds Tryd.pinned (.plain (OpenSpec.upto decimalOrderSpec)) decimalOrderUptoCard

/-- THE SECOND FORM's CARD OF 'idiomlaw02.DecimalSums'. -/
def decimalSumsUptoCard : Claim7 := { stood := { row := decimalSumsUptoRow, standIns := [], harness := (true, "85b5d7e9e710df72cb32900735420375226d09b782d570b81079f4ef01777d3c"), looks := true }, kinds := [], alts := [], laidByText := true, laidKinds := [.data, .pinned], laidTests := true, laidLooks := .later }
def DecimalSumsUptoCardSaid : Prop := Claim7.holds Tryd.pinned (.plain (OpenSpec.upto decimalSumsSpec)) decimalSumsUptoCard

/-- THE SECOND FORM's CARD OF 'idiomlaw02.DecimalRing'. -/
def decimalRingUptoCard : Claim7 := { stood := { row := decimalRingUptoRow, standIns := [], harness := (true, "85b5d7e9e710df72cb32900735420375226d09b782d570b81079f4ef01777d3c"), looks := true }, kinds := [], alts := [], laidByText := true, laidKinds := [.data, .pinned], laidTests := true, laidLooks := .later }
def DecimalRingUptoCardSaid : Prop := Claim7.holds Tryd.pinned (.plain (OpenSpec.upto decimalRingSpec)) decimalRingUptoCard

/-- THE SECOND FORM's CARD OF 'idiomlaw02.DecimalInts'. -/
def decimalIntsUptoCard : Claim7 := { stood := { row := decimalIntsUptoRow, standIns := [], harness := (true, "85b5d7e9e710df72cb32900735420375226d09b782d570b81079f4ef01777d3c"), looks := true }, kinds := [], alts := [], laidByText := true, laidKinds := [.data, .pinned], laidTests := true, laidLooks := .later }
def DecimalIntsUptoCardSaid : Prop := Claim7.holds Tryd.pinned (.plain (OpenSpec.upto decimalIntsSpec)) decimalIntsUptoCard

/-- THE SECOND FORM's CARD OF 'idiomlaw02.DecimalRest'. -/
def decimalRestUptoCard : Claim7 := { stood := { row := decimalRestUptoRow, standIns := [], harness := (true, "85b5d7e9e710df72cb32900735420375226d09b782d570b81079f4ef01777d3c"), looks := true }, kinds := [], alts := [], laidByText := true, laidKinds := [.data, .pinned], laidTests := true, laidLooks := .later }
def DecimalRestUptoCardSaid : Prop := Claim7.holds Tryd.pinned (.plain (OpenSpec.upto decimalRestSpec)) decimalRestUptoCard

/-- THE SECOND FORM's CARD OF 'idiomlaw02.DecimalMoves'. -/
def decimalMovesUptoCard : Claim7 := { stood := { row := decimalMovesUptoRow, standIns := [], harness := (true, "85b5d7e9e710df72cb32900735420375226d09b782d570b81079f4ef01777d3c"), looks := true }, kinds := [], alts := [], laidByText := true, laidKinds := [.data, .pinned], laidTests := true, laidLooks := .later }
def DecimalMovesUptoCardSaid : Prop := Claim7.holds Tryd.pinned (.plain (OpenSpec.upto decimalMovesSpec)) decimalMovesUptoCard

/-- THE SECOND FORM's CARD OF 'idiomlaw02.DecimalShifts'. -/
def decimalShiftsUptoCard : Claim7 := { stood := { row := decimalShiftsUptoRow, standIns := [], harness := (true, "85b5d7e9e710df72cb32900735420375226d09b782d570b81079f4ef01777d3c"), looks := true }, kinds := [], alts := [], laidByText := true, laidKinds := [.data, .pinned], laidTests := true, laidLooks := .later }
def DecimalShiftsUptoCardSaid : Prop := Claim7.holds Tryd.pinned (.plain (OpenSpec.upto decimalShiftsSpec)) decimalShiftsUptoCard

/-- THE SECOND FORM's CARD OF 'idiomlaw02.DecimalWhole'. -/
def decimalWholeUptoCard : Claim7 := { stood := { row := decimalWholeUptoRow, standIns := [], harness := (true, "85b5d7e9e710df72cb32900735420375226d09b782d570b81079f4ef01777d3c"), looks := true }, kinds := [], alts := [], laidByText := true, laidKinds := [.data, .data, .data, .data, .sentinel, .sentinel, .pinned], laidTests := true, laidLooks := .later }
def DecimalWholeUptoCardSaid : Prop := Claim7.holds Tryd.pinned (.plain (OpenSpec.upto decimalWholeSpec)) decimalWholeUptoCard
end Rows
end Go.Proofs.YtapbdblpdkoacaaDoor
