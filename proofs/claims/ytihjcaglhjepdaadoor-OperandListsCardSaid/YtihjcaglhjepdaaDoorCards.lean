/-
  DERIVED. GIVEN WITH THE SEED: THE CARDS: each row of YtihjcaglhjepdaaDoorRows.lean that lists a variable, with what it lists TIED to the program's text (the seventh form; the later family's looks); each row that meets fmt, with fmt's text TOLD by the authors' own Lean function (tested against real Go, not proved from fmt's source: count such statements apart). THE CARD IS WHAT COUNTS. Prove the row's statement (the work); the ties are given (YtihjcaglhjepdaaDoorTie.lean); close each card by the builder's one call (the guide's Derived/Test/ToyasCard.lean, 'card_holds'). Laid BY PROGRAM, IN A SANDBOX (cutbox-door.mjs). By AI agents, Wed Nov 11 2026. No macro, syntax, notation, axiom, sorry.
-/
import Derived.Test.YtihjcaglhjepdaaDoorRows
import GoSem.ClaimSeven
namespace Go.Proofs.YtihjcaglhjepdaaDoor
namespace Rows

/-- THE TIED CARD OF 'idiomlaw02.DecimalChecks'. -/
def decimalChecksCard : Claim7 := { stood := { row := decimalChecksRow, standIns := [], harness := (true, "dafd8735d843c9a93ae20bf10737f61b362ff45b2b916e64999ae59b55174d13"), looks := false }, kinds := [], alts := [], laidByText := true, laidKinds := [.data, .pinned], laidTests := true, laidLooks := .later }
def DecimalChecksCardSaid : Prop := Claim7.holds Tryd.pinned (.plain (OpenSpec.ofChange decimalChecksSpec)) decimalChecksCard

/-- THE TIED CARD OF 'idiomlaw02.DecimalReads'. -/
def decimalReadsCard : Claim7 := { stood := { row := decimalReadsRow, standIns := [], harness := (true, "dafd8735d843c9a93ae20bf10737f61b362ff45b2b916e64999ae59b55174d13"), looks := false }, kinds := [], alts := [], laidByText := true, laidKinds := [.data, .pinned], laidTests := true, laidLooks := .later }
def DecimalReadsCardSaid : Prop := Claim7.holds Tryd.pinned (.plain (OpenSpec.ofChange decimalReadsSpec)) decimalReadsCard

/-- THE TIED CARD OF 'idiomlaw02.DecimalDivides'. -/
def decimalDividesCard : Claim7 := { stood := { row := decimalDividesRow, standIns := [], harness := (true, "dafd8735d843c9a93ae20bf10737f61b362ff45b2b916e64999ae59b55174d13"), looks := false }, kinds := [], alts := [], laidByText := true, laidKinds := [.data, .pinned], laidTests := true, laidLooks := .later }
def DecimalDividesCardSaid : Prop := Claim7.holds Tryd.pinned (.plain (OpenSpec.ofChange decimalDividesSpec)) decimalDividesCard

/-- THE TIED CARD OF 'idiomlaw02.DecimalSums'. -/
def decimalSumsCard : Claim7 := { stood := { row := decimalSumsRow, standIns := [], harness := (true, "dafd8735d843c9a93ae20bf10737f61b362ff45b2b916e64999ae59b55174d13"), looks := false }, kinds := [], alts := [], laidByText := true, laidKinds := [.data, .pinned], laidTests := true, laidLooks := .later }
def DecimalSumsCardSaid : Prop := Claim7.holds Tryd.pinned (.plain (OpenSpec.ofChange decimalSumsSpec)) decimalSumsCard

/-- THE TIED CARD OF 'idiomlaw02.DecimalRing'. -/
def decimalRingCard : Claim7 := { stood := { row := decimalRingRow, standIns := [], harness := (true, "dafd8735d843c9a93ae20bf10737f61b362ff45b2b916e64999ae59b55174d13"), looks := false }, kinds := [], alts := [], laidByText := true, laidKinds := [.data, .pinned], laidTests := true, laidLooks := .later }
def DecimalRingCardSaid : Prop := Claim7.holds Tryd.pinned (.plain (OpenSpec.ofChange decimalRingSpec)) decimalRingCard

/-- THE TIED CARD OF 'idiomlaw02.DecimalRest'. -/
def decimalRestCard : Claim7 := { stood := { row := decimalRestRow, standIns := [], harness := (true, "dafd8735d843c9a93ae20bf10737f61b362ff45b2b916e64999ae59b55174d13"), looks := false }, kinds := [], alts := [], laidByText := true, laidKinds := [.data, .pinned], laidTests := true, laidLooks := .later }
def DecimalRestCardSaid : Prop := Claim7.holds Tryd.pinned (.plain (OpenSpec.ofChange decimalRestSpec)) decimalRestCard

/-- THE TIED CARD OF 'idiomlaw02.DecimalMoves'. -/
def decimalMovesCard : Claim7 := { stood := { row := decimalMovesRow, standIns := [], harness := (true, "dafd8735d843c9a93ae20bf10737f61b362ff45b2b916e64999ae59b55174d13"), looks := false }, kinds := [], alts := [], laidByText := true, laidKinds := [.data, .pinned], laidTests := true, laidLooks := .later }
def DecimalMovesCardSaid : Prop := Claim7.holds Tryd.pinned (.plain (OpenSpec.ofChange decimalMovesSpec)) decimalMovesCard

/-- THE TIED CARD OF 'idiomlaw04.OperandMakes'. -/
def operandMakesCard : Claim7 := { stood := { row := operandMakesRow, standIns := [], harness := (true, "dafd8735d843c9a93ae20bf10737f61b362ff45b2b916e64999ae59b55174d13"), looks := false }, kinds := [], alts := [], laidByText := true, laidKinds := [.data, .data, .data, .data, .pinned], laidTests := true, laidLooks := .later }
def OperandMakesCardSaid : Prop := Claim7.holds Tryd.pinned (.plain (OpenSpec.ofChange operandMakesSpec)) operandMakesCard

/-- THE TIED CARD OF 'idiomlaw04.OperandLost'. -/
def operandLostCard : Claim7 := { stood := { row := operandLostRow, standIns := [], harness := (true, "dafd8735d843c9a93ae20bf10737f61b362ff45b2b916e64999ae59b55174d13"), looks := false }, kinds := [], alts := [], laidByText := true, laidKinds := [.data, .data, .data, .data, .pinned], laidTests := true, laidLooks := .later }
def OperandLostCardSaid : Prop := Claim7.holds Tryd.pinned (.plain (OpenSpec.ofChange operandLostSpec)) operandLostCard

/-- THE TIED CARD OF 'idiomlaw04.OperandParts'. -/
def operandPartsCard : Claim7 := { stood := { row := operandPartsRow, standIns := [], harness := (true, "dafd8735d843c9a93ae20bf10737f61b362ff45b2b916e64999ae59b55174d13"), looks := false }, kinds := [], alts := [], laidByText := true, laidKinds := [.data, .data, .data, .data, .pinned], laidTests := true, laidLooks := .later }
def OperandPartsCardSaid : Prop := Claim7.holds Tryd.pinned (.plain (OpenSpec.ofChange operandPartsSpec)) operandPartsCard

/-- THE TIED CARD OF 'idiomlaw04.OperandNoughts'. -/
def operandNoughtsCard : Claim7 := { stood := { row := operandNoughtsRow, standIns := [], harness := (true, "dafd8735d843c9a93ae20bf10737f61b362ff45b2b916e64999ae59b55174d13"), looks := false }, kinds := [], alts := [], laidByText := true, laidKinds := [.data, .data, .data, .data, .pinned], laidTests := true, laidLooks := .later }
def OperandNoughtsCardSaid : Prop := Claim7.holds Tryd.pinned (.plain (OpenSpec.ofChange operandNoughtsSpec)) operandNoughtsCard

/-- THE TIED CARD OF 'idiomlaw04.OperandSame'. -/
def operandSameCard : Claim7 := { stood := { row := operandSameRow, standIns := [], harness := (true, "dafd8735d843c9a93ae20bf10737f61b362ff45b2b916e64999ae59b55174d13"), looks := false }, kinds := [], alts := [], laidByText := true, laidKinds := [.data, .data, .data, .data, .pinned], laidTests := true, laidLooks := .later }
def OperandSameCardSaid : Prop := Claim7.holds Tryd.pinned (.plain (OpenSpec.ofChange operandSameSpec)) operandSameCard

/-- THE TIED CARD OF 'idiomlaw04.OperandLists'. -/
def operandListsCard : Claim7 := { stood := { row := operandListsRow, standIns := [], harness := (true, "dafd8735d843c9a93ae20bf10737f61b362ff45b2b916e64999ae59b55174d13"), looks := false }, kinds := [], alts := [], laidByText := true, laidKinds := [.data, .data, .data, .data, .pinned], laidTests := true, laidLooks := .later }
def OperandListsCardSaid : Prop := Claim7.holds Tryd.pinned (.plain (OpenSpec.ofChange operandListsSpec)) operandListsCard

/-- THE TIED CARD OF 'idiomlaw04.OperandWhole'. -/
def operandWholeCard : Claim7 := { stood := { row := operandWholeRow, standIns := [], harness := (true, "dafd8735d843c9a93ae20bf10737f61b362ff45b2b916e64999ae59b55174d13"), looks := false }, kinds := [], alts := [], laidByText := true, laidKinds := [.data, .data, .data, .data, .pinned], laidTests := true, laidLooks := .later }
def OperandWholeCardSaid : Prop := Claim7.holds Tryd.pinned (.plain (OpenSpec.ofChange operandWholeSpec)) operandWholeCard

/-- THE SECOND FORM's CARD OF 'idiomlaw02.DecimalChecks'. -/
def decimalChecksUptoCard : Claim7 := { stood := { row := decimalChecksUptoRow, standIns := [], harness := (true, "dafd8735d843c9a93ae20bf10737f61b362ff45b2b916e64999ae59b55174d13"), looks := false }, kinds := [], alts := [], laidByText := true, laidKinds := [.data, .pinned], laidTests := true, laidLooks := .later }
def DecimalChecksUptoCardSaid : Prop := Claim7.holds Tryd.pinned (.plain (OpenSpec.upto decimalChecksSpec)) decimalChecksUptoCard

/-- THE SECOND FORM's CARD OF 'idiomlaw02.DecimalReads'. -/
def decimalReadsUptoCard : Claim7 := { stood := { row := decimalReadsUptoRow, standIns := [], harness := (true, "dafd8735d843c9a93ae20bf10737f61b362ff45b2b916e64999ae59b55174d13"), looks := false }, kinds := [], alts := [], laidByText := true, laidKinds := [.data, .pinned], laidTests := true, laidLooks := .later }
def DecimalReadsUptoCardSaid : Prop := Claim7.holds Tryd.pinned (.plain (OpenSpec.upto decimalReadsSpec)) decimalReadsUptoCard

/-- THE SECOND FORM's CARD OF 'idiomlaw02.DecimalDivides'. -/
def decimalDividesUptoCard : Claim7 := { stood := { row := decimalDividesUptoRow, standIns := [], harness := (true, "dafd8735d843c9a93ae20bf10737f61b362ff45b2b916e64999ae59b55174d13"), looks := false }, kinds := [], alts := [], laidByText := true, laidKinds := [.data, .pinned], laidTests := true, laidLooks := .later }
def DecimalDividesUptoCardSaid : Prop := Claim7.holds Tryd.pinned (.plain (OpenSpec.upto decimalDividesSpec)) decimalDividesUptoCard

/-- THE SECOND FORM's CARD OF 'idiomlaw02.DecimalSums'. -/
def decimalSumsUptoCard : Claim7 := { stood := { row := decimalSumsUptoRow, standIns := [], harness := (true, "dafd8735d843c9a93ae20bf10737f61b362ff45b2b916e64999ae59b55174d13"), looks := false }, kinds := [], alts := [], laidByText := true, laidKinds := [.data, .pinned], laidTests := true, laidLooks := .later }
def DecimalSumsUptoCardSaid : Prop := Claim7.holds Tryd.pinned (.plain (OpenSpec.upto decimalSumsSpec)) decimalSumsUptoCard

/-- THE SECOND FORM's CARD OF 'idiomlaw02.DecimalRing'. -/
def decimalRingUptoCard : Claim7 := { stood := { row := decimalRingUptoRow, standIns := [], harness := (true, "dafd8735d843c9a93ae20bf10737f61b362ff45b2b916e64999ae59b55174d13"), looks := false }, kinds := [], alts := [], laidByText := true, laidKinds := [.data, .pinned], laidTests := true, laidLooks := .later }
def DecimalRingUptoCardSaid : Prop := Claim7.holds Tryd.pinned (.plain (OpenSpec.upto decimalRingSpec)) decimalRingUptoCard

/-- THE SECOND FORM's CARD OF 'idiomlaw02.DecimalRest'. -/
def decimalRestUptoCard : Claim7 := { stood := { row := decimalRestUptoRow, standIns := [], harness := (true, "dafd8735d843c9a93ae20bf10737f61b362ff45b2b916e64999ae59b55174d13"), looks := false }, kinds := [], alts := [], laidByText := true, laidKinds := [.data, .pinned], laidTests := true, laidLooks := .later }
def DecimalRestUptoCardSaid : Prop := Claim7.holds Tryd.pinned (.plain (OpenSpec.upto decimalRestSpec)) decimalRestUptoCard

/-- THE SECOND FORM's CARD OF 'idiomlaw02.DecimalMoves'. -/
def decimalMovesUptoCard : Claim7 := { stood := { row := decimalMovesUptoRow, standIns := [], harness := (true, "dafd8735d843c9a93ae20bf10737f61b362ff45b2b916e64999ae59b55174d13"), looks := false }, kinds := [], alts := [], laidByText := true, laidKinds := [.data, .pinned], laidTests := true, laidLooks := .later }
def DecimalMovesUptoCardSaid : Prop := Claim7.holds Tryd.pinned (.plain (OpenSpec.upto decimalMovesSpec)) decimalMovesUptoCard

/-- THE SECOND FORM's CARD OF 'idiomlaw04.OperandMakes'. -/
def operandMakesUptoCard : Claim7 := { stood := { row := operandMakesUptoRow, standIns := [], harness := (true, "dafd8735d843c9a93ae20bf10737f61b362ff45b2b916e64999ae59b55174d13"), looks := false }, kinds := [], alts := [], laidByText := true, laidKinds := [.data, .data, .data, .data, .pinned], laidTests := true, laidLooks := .later }
def OperandMakesUptoCardSaid : Prop := Claim7.holds Tryd.pinned (.plain (OpenSpec.upto operandMakesSpec)) operandMakesUptoCard

/-- THE SECOND FORM's CARD OF 'idiomlaw04.OperandLost'. -/
def operandLostUptoCard : Claim7 := { stood := { row := operandLostUptoRow, standIns := [], harness := (true, "dafd8735d843c9a93ae20bf10737f61b362ff45b2b916e64999ae59b55174d13"), looks := false }, kinds := [], alts := [], laidByText := true, laidKinds := [.data, .data, .data, .data, .pinned], laidTests := true, laidLooks := .later }
def OperandLostUptoCardSaid : Prop := Claim7.holds Tryd.pinned (.plain (OpenSpec.upto operandLostSpec)) operandLostUptoCard

/-- THE SECOND FORM's CARD OF 'idiomlaw04.OperandParts'. -/
def operandPartsUptoCard : Claim7 := { stood := { row := operandPartsUptoRow, standIns := [], harness := (true, "dafd8735d843c9a93ae20bf10737f61b362ff45b2b916e64999ae59b55174d13"), looks := false }, kinds := [], alts := [], laidByText := true, laidKinds := [.data, .data, .data, .data, .pinned], laidTests := true, laidLooks := .later }
def OperandPartsUptoCardSaid : Prop := Claim7.holds Tryd.pinned (.plain (OpenSpec.upto operandPartsSpec)) operandPartsUptoCard

/-- THE SECOND FORM's CARD OF 'idiomlaw04.OperandNoughts'. -/
def operandNoughtsUptoCard : Claim7 := { stood := { row := operandNoughtsUptoRow, standIns := [], harness := (true, "dafd8735d843c9a93ae20bf10737f61b362ff45b2b916e64999ae59b55174d13"), looks := false }, kinds := [], alts := [], laidByText := true, laidKinds := [.data, .data, .data, .data, .pinned], laidTests := true, laidLooks := .later }
def OperandNoughtsUptoCardSaid : Prop := Claim7.holds Tryd.pinned (.plain (OpenSpec.upto operandNoughtsSpec)) operandNoughtsUptoCard

/-- THE SECOND FORM's CARD OF 'idiomlaw04.OperandSame'. -/
def operandSameUptoCard : Claim7 := { stood := { row := operandSameUptoRow, standIns := [], harness := (true, "dafd8735d843c9a93ae20bf10737f61b362ff45b2b916e64999ae59b55174d13"), looks := false }, kinds := [], alts := [], laidByText := true, laidKinds := [.data, .data, .data, .data, .pinned], laidTests := true, laidLooks := .later }
def OperandSameUptoCardSaid : Prop := Claim7.holds Tryd.pinned (.plain (OpenSpec.upto operandSameSpec)) operandSameUptoCard

/-- THE SECOND FORM's CARD OF 'idiomlaw04.OperandLists'. -/
def operandListsUptoCard : Claim7 := { stood := { row := operandListsUptoRow, standIns := [], harness := (true, "dafd8735d843c9a93ae20bf10737f61b362ff45b2b916e64999ae59b55174d13"), looks := false }, kinds := [], alts := [], laidByText := true, laidKinds := [.data, .data, .data, .data, .pinned], laidTests := true, laidLooks := .later }
def OperandListsUptoCardSaid : Prop := Claim7.holds Tryd.pinned (.plain (OpenSpec.upto operandListsSpec)) operandListsUptoCard

/-- THE SECOND FORM's CARD OF 'idiomlaw04.OperandWhole'. -/
def operandWholeUptoCard : Claim7 := { stood := { row := operandWholeUptoRow, standIns := [], harness := (true, "dafd8735d843c9a93ae20bf10737f61b362ff45b2b916e64999ae59b55174d13"), looks := false }, kinds := [], alts := [], laidByText := true, laidKinds := [.data, .data, .data, .data, .pinned], laidTests := true, laidLooks := .later }
def OperandWholeUptoCardSaid : Prop := Claim7.holds Tryd.pinned (.plain (OpenSpec.upto operandWholeSpec)) operandWholeUptoCard
end Rows
end Go.Proofs.YtihjcaglhjepdaaDoor
