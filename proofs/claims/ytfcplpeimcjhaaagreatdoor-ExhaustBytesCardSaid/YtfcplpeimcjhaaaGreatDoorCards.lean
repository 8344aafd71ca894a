/-
  DERIVED. GIVEN WITH THE SEED: THE CARDS: each row of YtfcplpeimcjhaaaGreatDoorRows.lean that lists a variable, with what it lists TIED to the program's text (the seventh form; the later family's looks); each row that meets fmt, with fmt's text TOLD by the authors' own Lean function (tested against real Go, not proved from fmt's source: count such statements apart). THE CARD IS WHAT COUNTS. Prove the row's statement (the work); the ties are given (YtfcplpeimcjhaaaGreatDoorTie.lean); close each card by the builder's one call (the guide's Derived/Test/ToyasCard.lean, 'card_holds'). Laid BY PROGRAM, IN A SANDBOX (cutbox-door.mjs). By AI agents, Wed Nov 11 2026. No macro, syntax, notation, axiom, sorry.
-/
import Derived.Test.YtfcplpeimcjhaaaGreatDoorRows
import GoSem.ClaimSeven
namespace Go.Proofs.YtfcplpeimcjhaaaGreatDoor
namespace Rows

/-- THE TIED CARD OF 'refuterlaw24.ExhaustBytes'. -/
def exhaustBytesCard : Claim7 := { stood := { row := exhaustBytesRow, standIns := [], harness := (true, "e85d9bc1767eec1a0829d409e9a2866f102a2e0c3644fca0926ccf8ff5f58ab0"), looks := true }, kinds := [], alts := [], laidByText := true, laidKinds := [.data, .data, .data, .data, .data, .data, .pinned, .pinned, .pinned, .pinned, .pinned, .pinned], laidTests := true, laidLooks := .later }
def ExhaustBytesCardSaid : Prop := Claim7.holds Tryz.pinned (.plain (OpenSpec.ofChange exhaustBytesSpec)) exhaustBytesCard

/-- THE SECOND FORM's CARD OF 'refuterlaw24.ExhaustBytes'. -/
def exhaustBytesUptoCard : Claim7 := { stood := { row := exhaustBytesUptoRow, standIns := [], harness := (true, "e85d9bc1767eec1a0829d409e9a2866f102a2e0c3644fca0926ccf8ff5f58ab0"), looks := true }, kinds := [], alts := [], laidByText := true, laidKinds := [.data, .data, .data, .data, .data, .data, .pinned, .pinned, .pinned, .pinned, .pinned, .pinned], laidTests := true, laidLooks := .later }
def ExhaustBytesUptoCardSaid : Prop := Claim7.holds Tryz.pinned (.plain (OpenSpec.upto exhaustBytesSpec)) exhaustBytesUptoCard
end Rows
end Go.Proofs.YtfcplpeimcjhaaaGreatDoor
