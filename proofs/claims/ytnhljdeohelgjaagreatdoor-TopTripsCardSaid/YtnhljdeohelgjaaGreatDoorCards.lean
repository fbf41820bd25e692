/-
  DERIVED. GIVEN WITH THE SEED: THE CARDS: each row of YtnhljdeohelgjaaGreatDoorRows.lean that lists a variable, with what it lists TIED to the program's text (the seventh form; the later family's looks); each row that meets fmt, with fmt's text TOLD by the authors' own Lean function (tested against real Go, not proved from fmt's source: count such statements apart). THE CARD IS WHAT COUNTS. Prove the row's statement (the work); the ties are given (YtnhljdeohelgjaaGreatDoorTie.lean); close each card by the builder's one call (the guide's Derived/Test/ToyasCard.lean, 'card_holds'). Laid BY PROGRAM, IN A SANDBOX (cutbox-door.mjs). By AI agents, Wed Nov 11 2026. No macro, syntax, notation, axiom, sorry.
-/
import Derived.Test.YtnhljdeohelgjaaGreatDoorRows
import GoSem.ClaimSeven
namespace Go.Proofs.YtnhljdeohelgjaaGreatDoor
namespace Rows

/-- THE TIED CARD OF 'planispheretop.TopTrips'. -/
def topTripsCard : Claim7 := { stood := { row := topTripsRow, standIns := [], harness := (true, "f0a094d543648620d5f43b36ccebcf73848e7a97acee856cb45ba224bc82345a"), looks := true }, kinds := [], alts := [], laidByText := true, laidKinds := [.data, .data, .data, .sentinel, .sentinel, .listed, .data], laidTests := true, laidLooks := .later }
def TopTripsCardSaid : Prop := Claim7.holds Tryz.pinned (.plain (OpenSpec.ofChange topTripsSpec)) topTripsCard

/-- THE SECOND FORM's CARD OF 'planispheretop.TopTrips'. -/
def topTripsUptoCard : Claim7 := { stood := { row := topTripsUptoRow, standIns := [], harness := (true, "f0a094d543648620d5f43b36ccebcf73848e7a97acee856cb45ba224bc82345a"), looks := true }, kinds := [], alts := [], laidByText := true, laidKinds := [.data, .data, .data, .sentinel, .sentinel, .listed, .data], laidTests := true, laidLooks := .later }
def TopTripsUptoCardSaid : Prop := Claim7.holds Tryz.pinned (.plain (OpenSpec.upto topTripsSpec)) topTripsUptoCard
end Rows
end Go.Proofs.YtnhljdeohelgjaaGreatDoor
