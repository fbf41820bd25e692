/-
  DERIVED. GIVEN WITH THE SEED: THE CARDS: each row of YtngjlnhojicjeaaGreatDoorRows.lean that lists a variable, with what it lists TIED to the program's text (the seventh form; the later family's looks); each row that meets fmt, with fmt's text TOLD by the authors' own Lean function (tested against real Go, not proved from fmt's source: count such statements apart). THE CARD IS WHAT COUNTS. Prove the row's statement (the work); the ties are given (YtngjlnhojicjeaaGreatDoorTie.lean); close each card by the builder's one call (the guide's Derived/Test/ToyasCard.lean, 'card_holds'). Laid BY PROGRAM, IN A SANDBOX (cutbox-door.mjs). By AI agents, Wed Nov 11 2026. No macro, syntax, notation, axiom, sorry.
-/
import Derived.Test.YtngjlnhojicjeaaGreatDoorRows
import GoSem.ClaimSeven
namespace Go.Proofs.YtngjlnhojicjeaaGreatDoor
namespace Rows

/-- THE TIED CARD OF 'planispherelaw38.EvalConditions'. -/
def evalConditionsCard : Claim7 := { stood := { row := evalConditionsRow, standIns := [], harness := (true, "d8ad5489b179c895de578a13163f16d4762223b65346ad63b5febd1c30152733"), looks := true }, kinds := [], alts := [], laidByText := true, laidKinds := [.data, .data, .data, .sentinel, .sentinel, .listed, .data], laidTests := true, laidLooks := .later }
def EvalConditionsCardSaid : Prop := Claim7.holds Tryz.pinned (.plain (OpenSpec.ofChange evalConditionsSpec)) evalConditionsCard

/-- THE TIED CARD OF 'planispherelaw38.EvalNearest'. -/
def evalNearestCard : Claim7 := { stood := { row := evalNearestRow, standIns := [], harness := (true, "d8ad5489b179c895de578a13163f16d4762223b65346ad63b5febd1c30152733"), looks := true }, kinds := [], alts := [], laidByText := true, laidKinds := [.data, .data, .data, .sentinel, .sentinel, .listed, .data], laidTests := true, laidLooks := .later }
def EvalNearestCardSaid : Prop := Claim7.holds Tryz.pinned (.plain (OpenSpec.ofChange evalNearestSpec)) evalNearestCard

/-- THE TIED CARD OF 'planispherelaw38.EvalCounts'. -/
def evalCountsCard : Claim7 := { stood := { row := evalCountsRow, standIns := [], harness := (true, "d8ad5489b179c895de578a13163f16d4762223b65346ad63b5febd1c30152733"), looks := true }, kinds := [], alts := [], laidByText := true, laidKinds := [.data, .data, .data, .sentinel, .sentinel, .listed, .data], laidTests := true, laidLooks := .later }
def EvalCountsCardSaid : Prop := Claim7.holds Tryz.pinned (.plain (OpenSpec.ofChange evalCountsSpec)) evalCountsCard

/-- THE TIED CARD OF 'planispherelaw38.EvalAlong'. -/
def evalAlongCard : Claim7 := { stood := { row := evalAlongRow, standIns := [], harness := (true, "d8ad5489b179c895de578a13163f16d4762223b65346ad63b5febd1c30152733"), looks := true }, kinds := [], alts := [], laidByText := true, laidKinds := [.data, .data, .data, .sentinel, .sentinel, .listed, .data], laidTests := true, laidLooks := .later }
def EvalAlongCardSaid : Prop := Claim7.holds Tryz.pinned (.plain (OpenSpec.ofChange evalAlongSpec)) evalAlongCard

/-- THE TIED CARD OF 'planispherelaw38.EvalKinds'. -/
def evalKindsCard : Claim7 := { stood := { row := evalKindsRow, standIns := [], harness := (true, "d8ad5489b179c895de578a13163f16d4762223b65346ad63b5febd1c30152733"), looks := true }, kinds := [], alts := [], laidByText := true, laidKinds := [.data, .data, .data, .sentinel, .sentinel, .listed, .data], laidTests := true, laidLooks := .later }
def EvalKindsCardSaid : Prop := Claim7.holds Tryz.pinned (.plain (OpenSpec.ofChange evalKindsSpec)) evalKindsCard

/-- THE SECOND FORM's CARD OF 'planispherelaw38.EvalConditions'. -/
def evalConditionsUptoCard : Claim7 := { stood := { row := evalConditionsUptoRow, standIns := [], harness := (true, "d8ad5489b179c895de578a13163f16d4762223b65346ad63b5febd1c30152733"), looks := true }, kinds := [], alts := [], laidByText := true, laidKinds := [.data, .data, .data, .sentinel, .sentinel, .listed, .data], laidTests := true, laidLooks := .later }
def EvalConditionsUptoCardSaid : Prop := Claim7.holds Tryz.pinned (.plain (OpenSpec.upto evalConditionsSpec)) evalConditionsUptoCard

/-- THE SECOND FORM's CARD OF 'planispherelaw38.EvalNearest'. -/
def evalNearestUptoCard : Claim7 := { stood := { row := evalNearestUptoRow, standIns := [], harness := (true, "d8ad5489b179c895de578a13163f16d4762223b65346ad63b5febd1c30152733"), looks := true }, kinds := [], alts := [], laidByText := true, laidKinds := [.data, .data, .data, .sentinel, .sentinel, .listed, .data], laidTests := true, laidLooks := .later }
def EvalNearestUptoCardSaid : Prop := Claim7.holds Tryz.pinned (.plain (OpenSpec.upto evalNearestSpec)) evalNearestUptoCard

/-- THE SECOND FORM's CARD OF 'planispherelaw38.EvalCounts'. -/
def evalCountsUptoCard : Claim7 := { stood := { row := evalCountsUptoRow, standIns := [], harness := (true, "d8ad5489b179c895de578a13163f16d4762223b65346ad63b5febd1c30152733"), looks := true }, kinds := [], alts := [], laidByText := true, laidKinds := [.data, .data, .data, .sentinel, .sentinel, .listed, .data], laidTests := true, laidLooks := .later }
def EvalCountsUptoCardSaid : Prop := Claim7.holds Tryz.pinned (.plain (OpenSpec.upto evalCountsSpec)) evalCountsUptoCard

/-- THE SECOND FORM's CARD OF 'planispherelaw38.EvalAlong'. -/
def evalAlongUptoCard : Claim7 := { stood := { row := evalAlongUptoRow, standIns := [], harness := (true, "d8ad5489b179c895de578a13163f16d4762223b65346ad63b5febd1c30152733"), looks := true }, kinds := [], alts := [], laidByText := true, laidKinds := [.data, .data, .data, .sentinel, .sentinel, .listed, .data], laidTests := true, laidLooks := .later }
def EvalAlongUptoCardSaid : Prop := Claim7.holds Tryz.pinned (.plain (OpenSpec.upto evalAlongSpec)) evalAlongUptoCard

/-- THE SECOND FORM's CARD OF 'planispherelaw38.EvalKinds'. -/
def evalKindsUptoCard : Claim7 := { stood := { row := evalKindsUptoRow, standIns := [], harness := (true, "d8ad5489b179c895de578a13163f16d4762223b65346ad63b5febd1c30152733"), looks := true }, kinds := [], alts := [], laidByText := true, laidKinds := [.data, .data, .data, .sentinel, .sentinel, .listed, .data], laidTests := true, laidLooks := .later }
def EvalKindsUptoCardSaid : Prop := Claim7.holds Tryz.pinned (.plain (OpenSpec.upto evalKindsSpec)) evalKindsUptoCard
end Rows
end Go.Proofs.YtngjlnhojicjeaaGreatDoor
