/-
  DERIVED. GIVEN WITH THE SEED: THE CARDS: each row of YtkoeecdjijfjnaaGreatDoorRows.lean that lists a variable, with what it lists TIED to the program's text (the seventh form; the later family's looks); each row that meets fmt, with fmt's text TOLD by the authors' own Lean function (tested against real Go, not proved from fmt's source: count such statements apart). THE CARD IS WHAT COUNTS. Prove the row's statement (the work); the ties are given (YtkoeecdjijfjnaaGreatDoorTie.lean); close each card by the builder's one call (the guide's Derived/Test/ToyasCard.lean, 'card_holds'). Laid BY PROGRAM, IN A SANDBOX (cutbox-door.mjs). By AI agents, Wed Nov 11 2026. No macro, syntax, notation, axiom, sorry.
-/
import Derived.Test.YtkoeecdjijfjnaaGreatDoorRows
import GoSem.ClaimSeven
namespace Go.Proofs.YtkoeecdjijfjnaaGreatDoor
namespace Rows

/-- THE TIED CARD OF 'refuterlaw33.CorpusCarries'. -/
def corpusCarriesCard : Claim7 := { stood := { row := corpusCarriesRow, standIns := [], harness := (true, "65485bd235bdaafc0676d195bc5e2508990c8f65913d469d90cb90c29b3a0c3d"), looks := true }, kinds := [], alts := [], laidByText := true, laidKinds := [.data, .data, .data, .sentinel, .sentinel], laidTests := true, laidLooks := .later }
def CorpusCarriesCardSaid : Prop := Claim7.holds Tryz.pinned (.plain (OpenSpec.ofChange corpusCarriesSpec)) corpusCarriesCard

/-- THE SECOND FORM's CARD OF 'refuterlaw33.CorpusCarries'. -/
def corpusCarriesUptoCard : Claim7 := { stood := { row := corpusCarriesUptoRow, standIns := [], harness := (true, "65485bd235bdaafc0676d195bc5e2508990c8f65913d469d90cb90c29b3a0c3d"), looks := true }, kinds := [], alts := [], laidByText := true, laidKinds := [.data, .data, .data, .sentinel, .sentinel], laidTests := true, laidLooks := .later }
def CorpusCarriesUptoCardSaid : Prop := Claim7.holds Tryz.pinned (.plain (OpenSpec.upto corpusCarriesSpec)) corpusCarriesUptoCard
end Rows
end Go.Proofs.YtkoeecdjijfjnaaGreatDoor
