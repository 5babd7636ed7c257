/-
  DERIVED. GIVEN WITH THE SEED: THE CARDS: each row of YtihjcaglhjepdaaGreatDoorRows.lean that lists a variable, with what it lists TIED to the program's text (the seventh form; the later family's looks); each row that meets fmt, with fmt's text TOLD by the authors' own Lean function (tested against real Go, not proved from fmt's source: count such statements apart). THE CARD IS WHAT COUNTS. Prove the row's statement (the work); the ties are given (YtihjcaglhjepdaaGreatDoorTie.lean); close each card by the builder's one call (the guide's Derived/Test/ToyasCard.lean, 'card_holds'). Laid BY PROGRAM, IN A SANDBOX (cutbox-door.mjs). By AI agents, Wed Nov 11 2026. No macro, syntax, notation, axiom, sorry.
-/
import Derived.Test.YtihjcaglhjepdaaGreatDoorRows
import GoSem.ClaimSeven
namespace Go.Proofs.YtihjcaglhjepdaaGreatDoor
namespace Rows

/-- THE TIED CARD OF 'idiomlaw04.OperandValues'. -/
def operandValuesCard : Claim7 := { stood := { row := operandValuesRow, standIns := [], harness := (true, "debe88fe0d07a34935456634d49096aa61e72d5a63d776972970660b73be279f"), looks := false }, kinds := [], alts := [], laidByText := true, laidKinds := [.data, .data, .data, .data, .pinned], laidTests := true, laidLooks := .later }
def OperandValuesCardSaid : Prop := Claim7.holds Tryz.pinned (.plain (OpenSpec.ofChange operandValuesSpec)) operandValuesCard

/-- THE TIED CARD OF 'idiomlaw04.OperandShown'. -/
def operandShownCard : Claim7 := { stood := { row := operandShownRow, standIns := [], harness := (true, "debe88fe0d07a34935456634d49096aa61e72d5a63d776972970660b73be279f"), looks := false }, kinds := [], alts := [], laidByText := true, laidKinds := [.data, .data, .data, .data, .pinned], laidTests := true, laidLooks := .later }
def OperandShownCardSaid : Prop := Claim7.holds Tryz.pinned (.plain (OpenSpec.ofChange operandShownSpec)) operandShownCard

/-- THE SECOND FORM's CARD OF 'idiomlaw04.OperandValues'. -/
def operandValuesUptoCard : Claim7 := { stood := { row := operandValuesUptoRow, standIns := [], harness := (true, "debe88fe0d07a34935456634d49096aa61e72d5a63d776972970660b73be279f"), looks := false }, kinds := [], alts := [], laidByText := true, laidKinds := [.data, .data, .data, .data, .pinned], laidTests := true, laidLooks := .later }
def OperandValuesUptoCardSaid : Prop := Claim7.holds Tryz.pinned (.plain (OpenSpec.upto operandValuesSpec)) operandValuesUptoCard

/-- THE SECOND FORM's CARD OF 'idiomlaw04.OperandShown'. -/
def operandShownUptoCard : Claim7 := { stood := { row := operandShownUptoRow, standIns := [], harness := (true, "debe88fe0d07a34935456634d49096aa61e72d5a63d776972970660b73be279f"), looks := false }, kinds := [], alts := [], laidByText := true, laidKinds := [.data, .data, .data, .data, .pinned], laidTests := true, laidLooks := .later }
def OperandShownUptoCardSaid : Prop := Claim7.holds Tryz.pinned (.plain (OpenSpec.upto operandShownSpec)) operandShownUptoCard
end Rows
end Go.Proofs.YtihjcaglhjepdaaGreatDoor
