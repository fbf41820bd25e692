/-
  DERIVED. GIVEN WITH THE SEED: THE CARDS: each row of YtjaffpnegdcjnaaGreatDoorRows.lean that lists a variable, with what it lists TIED to the program's text (the seventh form; the later family's looks); each row that meets fmt, with fmt's text TOLD by the authors' own Lean function (tested against real Go, not proved from fmt's source: count such statements apart). THE CARD IS WHAT COUNTS. Prove the row's statement (the work); the ties are given (YtjaffpnegdcjnaaGreatDoorTie.lean); close each card by the builder's one call (the guide's Derived/Test/ToyasCard.lean, 'card_holds'). Laid BY PROGRAM, IN A SANDBOX (cutbox-door.mjs). By AI agents, Wed Nov 11 2026. No macro, syntax, notation, axiom, sorry.
-/
import Derived.Test.YtjaffpnegdcjnaaGreatDoorRows
import GoSem.ClaimSeven
namespace Go.Proofs.YtjaffpnegdcjnaaGreatDoor
namespace Rows

/-- THE TIED CARD OF 'planispherelaw10.HoursMatchesReference'. -/
def hoursMatchesReferenceCard : Claim7 := { stood := { row := hoursMatchesReferenceRow, standIns := [], harness := (true, "ff3633295351c28f2f50b7dba6a37aa2b2279ff099aaa3171341d77bcc310ea0"), looks := true }, kinds := [], alts := [], laidByText := true, laidKinds := [.data, .data, .data, .sentinel, .sentinel, .listed, .data], laidTests := true, laidLooks := .later }
def HoursMatchesReferenceCardSaid : Prop := Claim7.holds Tryz.pinned (.plain (OpenSpec.ofChange hoursMatchesReferenceSpec)) hoursMatchesReferenceCard

/-- THE TIED CARD OF 'planispherelaw10.HoursTexts'. -/
def hoursTextsCard : Claim7 := { stood := { row := hoursTextsRow, standIns := [], harness := (true, "ff3633295351c28f2f50b7dba6a37aa2b2279ff099aaa3171341d77bcc310ea0"), looks := true }, kinds := [], alts := [], laidByText := true, laidKinds := [.data, .data, .data, .sentinel, .sentinel, .listed, .data], laidTests := true, laidLooks := .later }
def HoursTextsCardSaid : Prop := Claim7.holds Tryz.pinned (.plain (OpenSpec.ofChange hoursTextsSpec)) hoursTextsCard

/-- THE TIED CARD OF 'planispherelaw10.HoursGaps'. -/
def hoursGapsCard : Claim7 := { stood := { row := hoursGapsRow, standIns := [], harness := (true, "ff3633295351c28f2f50b7dba6a37aa2b2279ff099aaa3171341d77bcc310ea0"), looks := true }, kinds := [], alts := [], laidByText := true, laidKinds := [.data, .data, .data, .sentinel, .sentinel, .listed, .data], laidTests := true, laidLooks := .later }
def HoursGapsCardSaid : Prop := Claim7.holds Tryz.pinned (.plain (OpenSpec.ofChange hoursGapsSpec)) hoursGapsCard

/-- THE TIED CARD OF 'planispherelaw10.HoursNext'. -/
def hoursNextCard : Claim7 := { stood := { row := hoursNextRow, standIns := [], harness := (true, "ff3633295351c28f2f50b7dba6a37aa2b2279ff099aaa3171341d77bcc310ea0"), looks := true }, kinds := [], alts := [], laidByText := true, laidKinds := [.data, .data, .data, .sentinel, .sentinel, .listed, .data], laidTests := true, laidLooks := .later }
def HoursNextCardSaid : Prop := Claim7.holds Tryz.pinned (.plain (OpenSpec.ofChange hoursNextSpec)) hoursNextCard

/-- THE TIED CARD OF 'planispherelaw10.HoursParts'. -/
def hoursPartsCard : Claim7 := { stood := { row := hoursPartsRow, standIns := [], harness := (true, "ff3633295351c28f2f50b7dba6a37aa2b2279ff099aaa3171341d77bcc310ea0"), looks := true }, kinds := [], alts := [], laidByText := true, laidKinds := [.data, .data, .data, .sentinel, .sentinel, .listed, .data], laidTests := true, laidLooks := .later }
def HoursPartsCardSaid : Prop := Claim7.holds Tryz.pinned (.plain (OpenSpec.ofChange hoursPartsSpec)) hoursPartsCard

/-- THE TIED CARD OF 'planispherelaw10.HoursLaws'. -/
def hoursLawsCard : Claim7 := { stood := { row := hoursLawsRow, standIns := [], harness := (true, "ff3633295351c28f2f50b7dba6a37aa2b2279ff099aaa3171341d77bcc310ea0"), looks := true }, kinds := [], alts := [], laidByText := true, laidKinds := [.data, .data, .data, .sentinel, .sentinel, .listed, .data], laidTests := true, laidLooks := .later }
def HoursLawsCardSaid : Prop := Claim7.holds Tryz.pinned (.plain (OpenSpec.ofChange hoursLawsSpec)) hoursLawsCard

/-- THE TIED CARD OF 'planispherelaw10.HoursSetsMatchReference'. -/
def hoursSetsMatchReferenceCard : Claim7 := { stood := { row := hoursSetsMatchReferenceRow, standIns := [], harness := (true, "ff3633295351c28f2f50b7dba6a37aa2b2279ff099aaa3171341d77bcc310ea0"), looks := true }, kinds := [], alts := [], laidByText := true, laidKinds := [.data, .data, .data, .sentinel, .sentinel, .listed, .data], laidTests := true, laidLooks := .later }
def HoursSetsMatchReferenceCardSaid : Prop := Claim7.holds Tryz.pinned (.plain (OpenSpec.ofChange hoursSetsMatchReferenceSpec)) hoursSetsMatchReferenceCard

/-- THE TIED CARD OF 'planispherelaw10.HoursSets'. -/
def hoursSetsCard : Claim7 := { stood := { row := hoursSetsRow, standIns := [], harness := (true, "ff3633295351c28f2f50b7dba6a37aa2b2279ff099aaa3171341d77bcc310ea0"), looks := true }, kinds := [], alts := [], laidByText := true, laidKinds := [.data, .data, .data, .sentinel, .sentinel, .listed, .data], laidTests := true, laidLooks := .later }
def HoursSetsCardSaid : Prop := Claim7.holds Tryz.pinned (.plain (OpenSpec.ofChange hoursSetsSpec)) hoursSetsCard

/-- THE SECOND FORM's CARD OF 'planispherelaw10.HoursMatchesReference'. -/
def hoursMatchesReferenceUptoCard : Claim7 := { stood := { row := hoursMatchesReferenceUptoRow, standIns := [], harness := (true, "ff3633295351c28f2f50b7dba6a37aa2b2279ff099aaa3171341d77bcc310ea0"), looks := true }, kinds := [], alts := [], laidByText := true, laidKinds := [.data, .data, .data, .sentinel, .sentinel, .listed, .data], laidTests := true, laidLooks := .later }
def HoursMatchesReferenceUptoCardSaid : Prop := Claim7.holds Tryz.pinned (.plain (OpenSpec.upto hoursMatchesReferenceSpec)) hoursMatchesReferenceUptoCard

/-- THE SECOND FORM's CARD OF 'planispherelaw10.HoursTexts'. -/
def hoursTextsUptoCard : Claim7 := { stood := { row := hoursTextsUptoRow, standIns := [], harness := (true, "ff3633295351c28f2f50b7dba6a37aa2b2279ff099aaa3171341d77bcc310ea0"), looks := true }, kinds := [], alts := [], laidByText := true, laidKinds := [.data, .data, .data, .sentinel, .sentinel, .listed, .data], laidTests := true, laidLooks := .later }
def HoursTextsUptoCardSaid : Prop := Claim7.holds Tryz.pinned (.plain (OpenSpec.upto hoursTextsSpec)) hoursTextsUptoCard

/-- THE SECOND FORM's CARD OF 'planispherelaw10.HoursGaps'. -/
def hoursGapsUptoCard : Claim7 := { stood := { row := hoursGapsUptoRow, standIns := [], harness := (true, "ff3633295351c28f2f50b7dba6a37aa2b2279ff099aaa3171341d77bcc310ea0"), looks := true }, kinds := [], alts := [], laidByText := true, laidKinds := [.data, .data, .data, .sentinel, .sentinel, .listed, .data], laidTests := true, laidLooks := .later }
def HoursGapsUptoCardSaid : Prop := Claim7.holds Tryz.pinned (.plain (OpenSpec.upto hoursGapsSpec)) hoursGapsUptoCard

/-- THE SECOND FORM's CARD OF 'planispherelaw10.HoursNext'. -/
def hoursNextUptoCard : Claim7 := { stood := { row := hoursNextUptoRow, standIns := [], harness := (true, "ff3633295351c28f2f50b7dba6a37aa2b2279ff099aaa3171341d77bcc310ea0"), looks := true }, kinds := [], alts := [], laidByText := true, laidKinds := [.data, .data, .data, .sentinel, .sentinel, .listed, .data], laidTests := true, laidLooks := .later }
def HoursNextUptoCardSaid : Prop := Claim7.holds Tryz.pinned (.plain (OpenSpec.upto hoursNextSpec)) hoursNextUptoCard

/-- THE SECOND FORM's CARD OF 'planispherelaw10.HoursParts'. -/
def hoursPartsUptoCard : Claim7 := { stood := { row := hoursPartsUptoRow, standIns := [], harness := (true, "ff3633295351c28f2f50b7dba6a37aa2b2279ff099aaa3171341d77bcc310ea0"), looks := true }, kinds := [], alts := [], laidByText := true, laidKinds := [.data, .data, .data, .sentinel, .sentinel, .listed, .data], laidTests := true, laidLooks := .later }
def HoursPartsUptoCardSaid : Prop := Claim7.holds Tryz.pinned (.plain (OpenSpec.upto hoursPartsSpec)) hoursPartsUptoCard

/-- THE SECOND FORM's CARD OF 'planispherelaw10.HoursLaws'. -/
def hoursLawsUptoCard : Claim7 := { stood := { row := hoursLawsUptoRow, standIns := [], harness := (true, "ff3633295351c28f2f50b7dba6a37aa2b2279ff099aaa3171341d77bcc310ea0"), looks := true }, kinds := [], alts := [], laidByText := true, laidKinds := [.data, .data, .data, .sentinel, .sentinel, .listed, .data], laidTests := true, laidLooks := .later }
def HoursLawsUptoCardSaid : Prop := Claim7.holds Tryz.pinned (.plain (OpenSpec.upto hoursLawsSpec)) hoursLawsUptoCard

/-- THE SECOND FORM's CARD OF 'planispherelaw10.HoursSetsMatchReference'. -/
def hoursSetsMatchReferenceUptoCard : Claim7 := { stood := { row := hoursSetsMatchReferenceUptoRow, standIns := [], harness := (true, "ff3633295351c28f2f50b7dba6a37aa2b2279ff099aaa3171341d77bcc310ea0"), looks := true }, kinds := [], alts := [], laidByText := true, laidKinds := [.data, .data, .data, .sentinel, .sentinel, .listed, .data], laidTests := true, laidLooks := .later }
def HoursSetsMatchReferenceUptoCardSaid : Prop := Claim7.holds Tryz.pinned (.plain (OpenSpec.upto hoursSetsMatchReferenceSpec)) hoursSetsMatchReferenceUptoCard

/-- THE SECOND FORM's CARD OF 'planispherelaw10.HoursSets'. -/
def hoursSetsUptoCard : Claim7 := { stood := { row := hoursSetsUptoRow, standIns := [], harness := (true, "ff3633295351c28f2f50b7dba6a37aa2b2279ff099aaa3171341d77bcc310ea0"), looks := true }, kinds := [], alts := [], laidByText := true, laidKinds := [.data, .data, .data, .sentinel, .sentinel, .listed, .data], laidTests := true, laidLooks := .later }
def HoursSetsUptoCardSaid : Prop := Claim7.holds Tryz.pinned (.plain (OpenSpec.upto hoursSetsSpec)) hoursSetsUptoCard
end Rows
end Go.Proofs.YtjaffpnegdcjnaaGreatDoor
