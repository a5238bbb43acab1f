/-
  DERIVED. GIVEN WITH THE SEED: THE CARDS: each row of YtgcdpfpffalalaaGreatDoorRows.lean that lists a variable, with what it lists TIED to the program's text (the seventh form; the later family's looks); each row that meets fmt, with fmt's text TOLD by the authors' own Lean function (tested against real Go, not proved from fmt's source: count such statements apart). THE CARD IS WHAT COUNTS. Prove the row's statement (the work); the ties are given (YtgcdpfpffalalaaGreatDoorTie.lean); close each card by the builder's one call (the guide's Derived/Test/ToyasCard.lean, 'card_holds'). Laid BY PROGRAM, IN A SANDBOX (cutbox-door.mjs). By AI agents, Wed Nov 11 2026. No macro, syntax, notation, axiom, sorry.
-/
import Derived.Test.YtgcdpfpffalalaaGreatDoorRows
import GoSem.ClaimSeven
namespace Go.Proofs.YtgcdpfpffalalaaGreatDoor
namespace Rows

/-- THE TIED CARD OF 'clockworklaw15.InterpLocal'. -/
def interpLocalCard : Claim7 := { stood := { row := interpLocalRow, standIns := [], harness := (true, "28ff77d193b8093ecd6ebe2c78eaf6314b8060df9f7c3d0339df8b5c74b0dd1e"), looks := true }, kinds := [], alts := [], laidByText := true, laidKinds := [.data, .data, .data], laidTests := true, laidLooks := .later }
def InterpLocalCardSaid : Prop := Claim7.holds Tryz.pinned (.plain (OpenSpec.ofChange interpLocalSpec)) interpLocalCard

/-- THE TIED CARD OF 'clockworklaw15.InterpRuns'. -/
def interpRunsCard : Claim7 := { stood := { row := interpRunsRow, standIns := [], harness := (true, "28ff77d193b8093ecd6ebe2c78eaf6314b8060df9f7c3d0339df8b5c74b0dd1e"), looks := true }, kinds := [], alts := [], laidByText := true, laidKinds := [.data, .data, .data], laidTests := true, laidLooks := .later }
def InterpRunsCardSaid : Prop := Claim7.holds Tryz.pinned (.plain (OpenSpec.ofChange interpRunsSpec)) interpRunsCard

/-- THE TIED CARD OF 'clockworklaw15.InterpFootprints'. -/
def interpFootprintsCard : Claim7 := { stood := { row := interpFootprintsRow, standIns := [], harness := (true, "28ff77d193b8093ecd6ebe2c78eaf6314b8060df9f7c3d0339df8b5c74b0dd1e"), looks := true }, kinds := [], alts := [], laidByText := true, laidKinds := [.data, .data, .data], laidTests := true, laidLooks := .later }
def InterpFootprintsCardSaid : Prop := Claim7.holds Tryz.pinned (.plain (OpenSpec.ofChange interpFootprintsSpec)) interpFootprintsCard

/-- THE TIED CARD OF 'clockworklaw15.InterpBounds'. -/
def interpBoundsCard : Claim7 := { stood := { row := interpBoundsRow, standIns := [], harness := (true, "28ff77d193b8093ecd6ebe2c78eaf6314b8060df9f7c3d0339df8b5c74b0dd1e"), looks := true }, kinds := [], alts := [], laidByText := true, laidKinds := [.data, .data, .data], laidTests := true, laidLooks := .later }
def InterpBoundsCardSaid : Prop := Claim7.holds Tryz.pinned (.plain (OpenSpec.ofChange interpBoundsSpec)) interpBoundsCard

/-- THE TIED CARD OF 'clockworklaw15.InterpSames'. -/
def interpSamesCard : Claim7 := { stood := { row := interpSamesRow, standIns := [], harness := (true, "28ff77d193b8093ecd6ebe2c78eaf6314b8060df9f7c3d0339df8b5c74b0dd1e"), looks := true }, kinds := [], alts := [], laidByText := true, laidKinds := [.data, .data, .data], laidTests := true, laidLooks := .later }
def InterpSamesCardSaid : Prop := Claim7.holds Tryz.pinned (.plain (OpenSpec.ofChange interpSamesSpec)) interpSamesCard

/-- THE TIED CARD OF 'clockworklaw15.InterpEvals'. -/
def interpEvalsCard : Claim7 := { stood := { row := interpEvalsRow, standIns := [], harness := (true, "28ff77d193b8093ecd6ebe2c78eaf6314b8060df9f7c3d0339df8b5c74b0dd1e"), looks := true }, kinds := [], alts := [], laidByText := true, laidKinds := [.data, .data, .data], laidTests := true, laidLooks := .later }
def InterpEvalsCardSaid : Prop := Claim7.holds Tryz.pinned (.plain (OpenSpec.ofChange interpEvalsSpec)) interpEvalsCard

/-- THE SECOND FORM's CARD OF 'clockworklaw15.InterpLocal'. -/
def interpLocalUptoCard : Claim7 := { stood := { row := interpLocalUptoRow, standIns := [], harness := (true, "28ff77d193b8093ecd6ebe2c78eaf6314b8060df9f7c3d0339df8b5c74b0dd1e"), looks := true }, kinds := [], alts := [], laidByText := true, laidKinds := [.data, .data, .data], laidTests := true, laidLooks := .later }
def InterpLocalUptoCardSaid : Prop := Claim7.holds Tryz.pinned (.plain (OpenSpec.upto interpLocalSpec)) interpLocalUptoCard

/-- THE SECOND FORM's CARD OF 'clockworklaw15.InterpRuns'. -/
def interpRunsUptoCard : Claim7 := { stood := { row := interpRunsUptoRow, standIns := [], harness := (true, "28ff77d193b8093ecd6ebe2c78eaf6314b8060df9f7c3d0339df8b5c74b0dd1e"), looks := true }, kinds := [], alts := [], laidByText := true, laidKinds := [.data, .data, .data], laidTests := true, laidLooks := .later }
def InterpRunsUptoCardSaid : Prop := Claim7.holds Tryz.pinned (.plain (OpenSpec.upto interpRunsSpec)) interpRunsUptoCard

/-- THE SECOND FORM's CARD OF 'clockworklaw15.InterpFootprints'. -/
def interpFootprintsUptoCard : Claim7 := { stood := { row := interpFootprintsUptoRow, standIns := [], harness := (true, "28ff77d193b8093ecd6ebe2c78eaf6314b8060df9f7c3d0339df8b5c74b0dd1e"), looks := true }, kinds := [], alts := [], laidByText := true, laidKinds := [.data, .data, .data], laidTests := true, laidLooks := .later }
def InterpFootprintsUptoCardSaid : Prop := Claim7.holds Tryz.pinned (.plain (OpenSpec.upto interpFootprintsSpec)) interpFootprintsUptoCard

/-- THE SECOND FORM's CARD OF 'clockworklaw15.InterpBounds'. -/
def interpBoundsUptoCard : Claim7 := { stood := { row := interpBoundsUptoRow, standIns := [], harness := (true, "28ff77d193b8093ecd6ebe2c78eaf6314b8060df9f7c3d0339df8b5c74b0dd1e"), looks := true }, kinds := [], alts := [], laidByText := true, laidKinds := [.data, .data, .data], laidTests := true, laidLooks := .later }
def InterpBoundsUptoCardSaid : Prop := Claim7.holds Tryz.pinned (.plain (OpenSpec.upto interpBoundsSpec)) interpBoundsUptoCard

/-- THE SECOND FORM's CARD OF 'clockworklaw15.InterpSames'. -/
def interpSamesUptoCard : Claim7 := { stood := { row := interpSamesUptoRow, standIns := [], harness := (true, "28ff77d193b8093ecd6ebe2c78eaf6314b8060df9f7c3d0339df8b5c74b0dd1e"), looks := true }, kinds := [], alts := [], laidByText := true, laidKinds := [.data, .data, .data], laidTests := true, laidLooks := .later }
def InterpSamesUptoCardSaid : Prop := Claim7.holds Tryz.pinned (.plain (OpenSpec.upto interpSamesSpec)) interpSamesUptoCard

/-- THE SECOND FORM's CARD OF 'clockworklaw15.InterpEvals'. -/
def interpEvalsUptoCard : Claim7 := { stood := { row := interpEvalsUptoRow, standIns := [], harness := (true, "28ff77d193b8093ecd6ebe2c78eaf6314b8060df9f7c3d0339df8b5c74b0dd1e"), looks := true }, kinds := [], alts := [], laidByText := true, laidKinds := [.data, .data, .data], laidTests := true, laidLooks := .later }
def InterpEvalsUptoCardSaid : Prop := Claim7.holds Tryz.pinned (.plain (OpenSpec.upto interpEvalsSpec)) interpEvalsUptoCard
end Rows
end Go.Proofs.YtgcdpfpffalalaaGreatDoor
