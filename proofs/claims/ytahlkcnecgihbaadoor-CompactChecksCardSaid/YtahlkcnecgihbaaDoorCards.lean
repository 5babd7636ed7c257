/-
  DERIVED. GIVEN WITH THE SEED: THE CARDS: each row of YtahlkcnecgihbaaDoorRows.lean that lists a variable, with what it lists TIED to the program's text (the seventh form; the later family's looks); each row that meets fmt, with fmt's text TOLD by the authors' own Lean function (tested against real Go, not proved from fmt's source: count such statements apart). THE CARD IS WHAT COUNTS. Prove the row's statement (the work); the ties are given (YtahlkcnecgihbaaDoorTie.lean); close each card by the builder's one call (the guide's Derived/Test/ToyasCard.lean, 'card_holds'). Laid BY PROGRAM, IN A SANDBOX (cutbox-door.mjs). By AI agents, Wed Nov 11 2026. No macro, syntax, notation, axiom, sorry.
-/
import Derived.Test.YtahlkcnecgihbaaDoorRows
import GoSem.ClaimSeven
namespace Go.Proofs.YtahlkcnecgihbaaDoor
namespace Rows

/-- THE TIED CARD OF 'idiomlaw11.CompactChecks'. -/
def compactChecksCard : Claim7 := { stood := { row := compactChecksRow, standIns := [], harness := (true, "910eecc6c5c35cff6a7bb0bd850e31386c4afd4acb084258bfa3352df6b4ab35"), looks := false }, kinds := [], alts := [], laidByText := true, laidKinds := [.data, .pinned], laidTests := true, laidLooks := .later }
def CompactChecksCardSaid : Prop := Claim7.holds Tryd.pinned (.plain (OpenSpec.ofChange compactChecksSpec)) compactChecksCard

/-- THE SECOND FORM's CARD OF 'idiomlaw11.CompactChecks'. -/
def compactChecksUptoCard : Claim7 := { stood := { row := compactChecksUptoRow, standIns := [], harness := (true, "910eecc6c5c35cff6a7bb0bd850e31386c4afd4acb084258bfa3352df6b4ab35"), looks := false }, kinds := [], alts := [], laidByText := true, laidKinds := [.data, .pinned], laidTests := true, laidLooks := .later }
def CompactChecksUptoCardSaid : Prop := Claim7.holds Tryd.pinned (.plain (OpenSpec.upto compactChecksSpec)) compactChecksUptoCard
end Rows
end Go.Proofs.YtahlkcnecgihbaaDoor
