/-
  DERIVED. GIVEN WITH THE SEED: THE CARDS: each row of YtbflfefahheidaaGreatDoorRows.lean that lists a variable, with what it lists TIED to the program's text (the seventh form; the later family's looks); each row that meets fmt, with fmt's text TOLD by the authors' own Lean function (tested against real Go, not proved from fmt's source: count such statements apart). THE CARD IS WHAT COUNTS. Prove the row's statement (the work); the ties are given (YtbflfefahheidaaGreatDoorTie.lean); close each card by the builder's one call (the guide's Derived/Test/ToyasCard.lean, 'card_holds'). Laid BY PROGRAM, IN A SANDBOX (cutbox-door.mjs). By AI agents, Wed Nov 11 2026. No macro, syntax, notation, axiom, sorry.
-/
import Derived.Test.YtbflfefahheidaaGreatDoorRows
import GoSem.ClaimSeven
namespace Go.Proofs.YtbflfefahheidaaGreatDoor
namespace Rows

/-- THE TIED CARD OF 'planispherelaw37.PathMatchesReference'. -/
def pathMatchesReferenceCard : Claim7 := { stood := { row := pathMatchesReferenceRow, standIns := [], harness := (true, "afa07effc40d7ae955d99d1858bd1b689d762936f66a9444e2ef661d05c260ea"), looks := true }, kinds := [], alts := [], laidByText := true, laidKinds := [.data, .data, .data, .sentinel, .sentinel, .listed, .data], laidTests := true, laidLooks := .later }
def PathMatchesReferenceCardSaid : Prop := Claim7.holds Tryz.pinned (.plain (OpenSpec.ofChange pathMatchesReferenceSpec)) pathMatchesReferenceCard

/-- THE TIED CARD OF 'planispherelaw37.PathTrips'. -/
def pathTripsCard : Claim7 := { stood := { row := pathTripsRow, standIns := [], harness := (true, "afa07effc40d7ae955d99d1858bd1b689d762936f66a9444e2ef661d05c260ea"), looks := true }, kinds := [], alts := [], laidByText := true, laidKinds := [.data, .data, .data, .sentinel, .sentinel, .listed, .data], laidTests := true, laidLooks := .later }
def PathTripsCardSaid : Prop := Claim7.holds Tryz.pinned (.plain (OpenSpec.ofChange pathTripsSpec)) pathTripsCard

/-- THE TIED CARD OF 'planispherelaw37.PathEarliest'. -/
def pathEarliestCard : Claim7 := { stood := { row := pathEarliestRow, standIns := [], harness := (true, "afa07effc40d7ae955d99d1858bd1b689d762936f66a9444e2ef661d05c260ea"), looks := true }, kinds := [], alts := [], laidByText := true, laidKinds := [.data, .data, .data, .sentinel, .sentinel, .listed, .data], laidTests := true, laidLooks := .later }
def PathEarliestCardSaid : Prop := Claim7.holds Tryz.pinned (.plain (OpenSpec.ofChange pathEarliestSpec)) pathEarliestCard

/-- THE TIED CARD OF 'planispherelaw37.PathAgrees'. -/
def pathAgreesCard : Claim7 := { stood := { row := pathAgreesRow, standIns := [], harness := (true, "afa07effc40d7ae955d99d1858bd1b689d762936f66a9444e2ef661d05c260ea"), looks := true }, kinds := [], alts := [], laidByText := true, laidKinds := [.data, .data, .data, .sentinel, .sentinel, .listed, .data], laidTests := true, laidLooks := .later }
def PathAgreesCardSaid : Prop := Claim7.holds Tryz.pinned (.plain (OpenSpec.ofChange pathAgreesSpec)) pathAgreesCard

/-- THE TIED CARD OF 'planispherelaw37.PathLater'. -/
def pathLaterCard : Claim7 := { stood := { row := pathLaterRow, standIns := [], harness := (true, "afa07effc40d7ae955d99d1858bd1b689d762936f66a9444e2ef661d05c260ea"), looks := true }, kinds := [], alts := [], laidByText := true, laidKinds := [.data, .data, .data, .sentinel, .sentinel, .listed, .data], laidTests := true, laidLooks := .later }
def PathLaterCardSaid : Prop := Claim7.holds Tryz.pinned (.plain (OpenSpec.ofChange pathLaterSpec)) pathLaterCard

/-- THE TIED CARD OF 'planispherelaw37.PathFewer'. -/
def pathFewerCard : Claim7 := { stood := { row := pathFewerRow, standIns := [], harness := (true, "afa07effc40d7ae955d99d1858bd1b689d762936f66a9444e2ef661d05c260ea"), looks := true }, kinds := [], alts := [], laidByText := true, laidKinds := [.data, .data, .data, .sentinel, .sentinel, .listed, .data], laidTests := true, laidLooks := .later }
def PathFewerCardSaid : Prop := Claim7.holds Tryz.pinned (.plain (OpenSpec.ofChange pathFewerSpec)) pathFewerCard

/-- THE SECOND FORM's CARD OF 'planispherelaw37.PathMatchesReference'. -/
def pathMatchesReferenceUptoCard : Claim7 := { stood := { row := pathMatchesReferenceUptoRow, standIns := [], harness := (true, "afa07effc40d7ae955d99d1858bd1b689d762936f66a9444e2ef661d05c260ea"), looks := true }, kinds := [], alts := [], laidByText := true, laidKinds := [.data, .data, .data, .sentinel, .sentinel, .listed, .data], laidTests := true, laidLooks := .later }
def PathMatchesReferenceUptoCardSaid : Prop := Claim7.holds Tryz.pinned (.plain (OpenSpec.upto pathMatchesReferenceSpec)) pathMatchesReferenceUptoCard

/-- THE SECOND FORM's CARD OF 'planispherelaw37.PathTrips'. -/
def pathTripsUptoCard : Claim7 := { stood := { row := pathTripsUptoRow, standIns := [], harness := (true, "afa07effc40d7ae955d99d1858bd1b689d762936f66a9444e2ef661d05c260ea"), looks := true }, kinds := [], alts := [], laidByText := true, laidKinds := [.data, .data, .data, .sentinel, .sentinel, .listed, .data], laidTests := true, laidLooks := .later }
def PathTripsUptoCardSaid : Prop := Claim7.holds Tryz.pinned (.plain (OpenSpec.upto pathTripsSpec)) pathTripsUptoCard

/-- THE SECOND FORM's CARD OF 'planispherelaw37.PathEarliest'. -/
def pathEarliestUptoCard : Claim7 := { stood := { row := pathEarliestUptoRow, standIns := [], harness := (true, "afa07effc40d7ae955d99d1858bd1b689d762936f66a9444e2ef661d05c260ea"), looks := true }, kinds := [], alts := [], laidByText := true, laidKinds := [.data, .data, .data, .sentinel, .sentinel, .listed, .data], laidTests := true, laidLooks := .later }
def PathEarliestUptoCardSaid : Prop := Claim7.holds Tryz.pinned (.plain (OpenSpec.upto pathEarliestSpec)) pathEarliestUptoCard

/-- THE SECOND FORM's CARD OF 'planispherelaw37.PathAgrees'. -/
def pathAgreesUptoCard : Claim7 := { stood := { row := pathAgreesUptoRow, standIns := [], harness := (true, "afa07effc40d7ae955d99d1858bd1b689d762936f66a9444e2ef661d05c260ea"), looks := true }, kinds := [], alts := [], laidByText := true, laidKinds := [.data, .data, .data, .sentinel, .sentinel, .listed, .data], laidTests := true, laidLooks := .later }
def PathAgreesUptoCardSaid : Prop := Claim7.holds Tryz.pinned (.plain (OpenSpec.upto pathAgreesSpec)) pathAgreesUptoCard

/-- THE SECOND FORM's CARD OF 'planispherelaw37.PathLater'. -/
def pathLaterUptoCard : Claim7 := { stood := { row := pathLaterUptoRow, standIns := [], harness := (true, "afa07effc40d7ae955d99d1858bd1b689d762936f66a9444e2ef661d05c260ea"), looks := true }, kinds := [], alts := [], laidByText := true, laidKinds := [.data, .data, .data, .sentinel, .sentinel, .listed, .data], laidTests := true, laidLooks := .later }
def PathLaterUptoCardSaid : Prop := Claim7.holds Tryz.pinned (.plain (OpenSpec.upto pathLaterSpec)) pathLaterUptoCard

/-- THE SECOND FORM's CARD OF 'planispherelaw37.PathFewer'. -/
def pathFewerUptoCard : Claim7 := { stood := { row := pathFewerUptoRow, standIns := [], harness := (true, "afa07effc40d7ae955d99d1858bd1b689d762936f66a9444e2ef661d05c260ea"), looks := true }, kinds := [], alts := [], laidByText := true, laidKinds := [.data, .data, .data, .sentinel, .sentinel, .listed, .data], laidTests := true, laidLooks := .later }
def PathFewerUptoCardSaid : Prop := Claim7.holds Tryz.pinned (.plain (OpenSpec.upto pathFewerSpec)) pathFewerUptoCard
end Rows
end Go.Proofs.YtbflfefahheidaaGreatDoor
