/-
  DERIVED. GIVEN WITH THE SEED: THE CARDS: each row of YtolejdhnnchfpaaGreatDoorRows.lean that lists a variable, with what it lists TIED to the program's text (the seventh form; the later family's looks); each row that meets fmt, with fmt's text TOLD by the authors' own Lean function (tested against real Go, not proved from fmt's source: count such statements apart). THE CARD IS WHAT COUNTS. Prove the row's statement (the work); the ties are given (YtolejdhnnchfpaaGreatDoorTie.lean); close each card by the builder's one call (the guide's Derived/Test/ToyasCard.lean, 'card_holds'). Laid BY PROGRAM, IN A SANDBOX (cutbox-door.mjs). By AI agents, Wed Nov 11 2026. No macro, syntax, notation, axiom, sorry.
-/
import Derived.Test.YtolejdhnnchfpaaGreatDoorRows
import GoSem.ClaimSeven
namespace Go.Proofs.YtolejdhnnchfpaaGreatDoor
namespace Rows

/-- THE TIED CARD OF 'clockworklaw32.DistValidates'. -/
def distValidatesCard : Claim7 := { stood := { row := distValidatesRow, standIns := [], harness := (true, "ffa180663340961709f30a29fd66f3c8f697e17b6d95ee164bfe8d1524d29a76"), looks := true }, kinds := [], alts := [], laidByText := true, laidKinds := [.data, .data, .data], laidTests := true, laidLooks := .later }
def DistValidatesCardSaid : Prop := Claim7.holds Tryz.pinned (.plain (OpenSpec.ofChange distValidatesSpec)) distValidatesCard

/-- THE TIED CARD OF 'clockworklaw32.DistLoads'. -/
def distLoadsCard : Claim7 := { stood := { row := distLoadsRow, standIns := [], harness := (true, "ffa180663340961709f30a29fd66f3c8f697e17b6d95ee164bfe8d1524d29a76"), looks := true }, kinds := [], alts := [], laidByText := true, laidKinds := [.data, .data, .data], laidTests := true, laidLooks := .later }
def DistLoadsCardSaid : Prop := Claim7.holds Tryz.pinned (.plain (OpenSpec.ofChange distLoadsSpec)) distLoadsCard

/-- THE TIED CARD OF 'clockworklaw32.DistSerial'. -/
def distSerialCard : Claim7 := { stood := { row := distSerialRow, standIns := [], harness := (true, "ffa180663340961709f30a29fd66f3c8f697e17b6d95ee164bfe8d1524d29a76"), looks := true }, kinds := [], alts := [], laidByText := true, laidKinds := [.data, .data, .data], laidTests := true, laidLooks := .later }
def DistSerialCardSaid : Prop := Claim7.holds Tryz.pinned (.plain (OpenSpec.ofChange distSerialSpec)) distSerialCard

/-- THE TIED CARD OF 'clockworklaw32.DistChoices'. -/
def distChoicesCard : Claim7 := { stood := { row := distChoicesRow, standIns := [], harness := (true, "ffa180663340961709f30a29fd66f3c8f697e17b6d95ee164bfe8d1524d29a76"), looks := true }, kinds := [], alts := [], laidByText := true, laidKinds := [.data, .data, .data], laidTests := true, laidLooks := .later }
def DistChoicesCardSaid : Prop := Claim7.holds Tryz.pinned (.plain (OpenSpec.ofChange distChoicesSpec)) distChoicesCard

/-- THE TIED CARD OF 'clockworklaw32.DistGathers'. -/
def distGathersCard : Claim7 := { stood := { row := distGathersRow, standIns := [], harness := (true, "ffa180663340961709f30a29fd66f3c8f697e17b6d95ee164bfe8d1524d29a76"), looks := true }, kinds := [], alts := [], laidByText := true, laidKinds := [.data, .data, .data], laidTests := true, laidLooks := .later }
def DistGathersCardSaid : Prop := Claim7.holds Tryz.pinned (.plain (OpenSpec.ofChange distGathersSpec)) distGathersCard

/-- THE TIED CARD OF 'clockworklaw32.DistConserves'. -/
def distConservesCard : Claim7 := { stood := { row := distConservesRow, standIns := [], harness := (true, "ffa180663340961709f30a29fd66f3c8f697e17b6d95ee164bfe8d1524d29a76"), looks := true }, kinds := [], alts := [], laidByText := true, laidKinds := [.data, .data, .data], laidTests := true, laidLooks := .later }
def DistConservesCardSaid : Prop := Claim7.holds Tryz.pinned (.plain (OpenSpec.ofChange distConservesSpec)) distConservesCard

/-- THE TIED CARD OF 'clockworklaw32.DistMoves'. -/
def distMovesCard : Claim7 := { stood := { row := distMovesRow, standIns := [], harness := (true, "ffa180663340961709f30a29fd66f3c8f697e17b6d95ee164bfe8d1524d29a76"), looks := true }, kinds := [], alts := [], laidByText := true, laidKinds := [.data, .data, .data], laidTests := true, laidLooks := .later }
def DistMovesCardSaid : Prop := Claim7.holds Tryz.pinned (.plain (OpenSpec.ofChange distMovesSpec)) distMovesCard

/-- THE SECOND FORM's CARD OF 'clockworklaw32.DistValidates'. -/
def distValidatesUptoCard : Claim7 := { stood := { row := distValidatesUptoRow, standIns := [], harness := (true, "ffa180663340961709f30a29fd66f3c8f697e17b6d95ee164bfe8d1524d29a76"), looks := true }, kinds := [], alts := [], laidByText := true, laidKinds := [.data, .data, .data], laidTests := true, laidLooks := .later }
def DistValidatesUptoCardSaid : Prop := Claim7.holds Tryz.pinned (.plain (OpenSpec.upto distValidatesSpec)) distValidatesUptoCard

/-- THE SECOND FORM's CARD OF 'clockworklaw32.DistLoads'. -/
def distLoadsUptoCard : Claim7 := { stood := { row := distLoadsUptoRow, standIns := [], harness := (true, "ffa180663340961709f30a29fd66f3c8f697e17b6d95ee164bfe8d1524d29a76"), looks := true }, kinds := [], alts := [], laidByText := true, laidKinds := [.data, .data, .data], laidTests := true, laidLooks := .later }
def DistLoadsUptoCardSaid : Prop := Claim7.holds Tryz.pinned (.plain (OpenSpec.upto distLoadsSpec)) distLoadsUptoCard

/-- THE SECOND FORM's CARD OF 'clockworklaw32.DistSerial'. -/
def distSerialUptoCard : Claim7 := { stood := { row := distSerialUptoRow, standIns := [], harness := (true, "ffa180663340961709f30a29fd66f3c8f697e17b6d95ee164bfe8d1524d29a76"), looks := true }, kinds := [], alts := [], laidByText := true, laidKinds := [.data, .data, .data], laidTests := true, laidLooks := .later }
def DistSerialUptoCardSaid : Prop := Claim7.holds Tryz.pinned (.plain (OpenSpec.upto distSerialSpec)) distSerialUptoCard

/-- THE SECOND FORM's CARD OF 'clockworklaw32.DistChoices'. -/
def distChoicesUptoCard : Claim7 := { stood := { row := distChoicesUptoRow, standIns := [], harness := (true, "ffa180663340961709f30a29fd66f3c8f697e17b6d95ee164bfe8d1524d29a76"), looks := true }, kinds := [], alts := [], laidByText := true, laidKinds := [.data, .data, .data], laidTests := true, laidLooks := .later }
def DistChoicesUptoCardSaid : Prop := Claim7.holds Tryz.pinned (.plain (OpenSpec.upto distChoicesSpec)) distChoicesUptoCard

/-- THE SECOND FORM's CARD OF 'clockworklaw32.DistGathers'. -/
def distGathersUptoCard : Claim7 := { stood := { row := distGathersUptoRow, standIns := [], harness := (true, "ffa180663340961709f30a29fd66f3c8f697e17b6d95ee164bfe8d1524d29a76"), looks := true }, kinds := [], alts := [], laidByText := true, laidKinds := [.data, .data, .data], laidTests := true, laidLooks := .later }
def DistGathersUptoCardSaid : Prop := Claim7.holds Tryz.pinned (.plain (OpenSpec.upto distGathersSpec)) distGathersUptoCard

/-- THE SECOND FORM's CARD OF 'clockworklaw32.DistConserves'. -/
def distConservesUptoCard : Claim7 := { stood := { row := distConservesUptoRow, standIns := [], harness := (true, "ffa180663340961709f30a29fd66f3c8f697e17b6d95ee164bfe8d1524d29a76"), looks := true }, kinds := [], alts := [], laidByText := true, laidKinds := [.data, .data, .data], laidTests := true, laidLooks := .later }
def DistConservesUptoCardSaid : Prop := Claim7.holds Tryz.pinned (.plain (OpenSpec.upto distConservesSpec)) distConservesUptoCard

/-- THE SECOND FORM's CARD OF 'clockworklaw32.DistMoves'. -/
def distMovesUptoCard : Claim7 := { stood := { row := distMovesUptoRow, standIns := [], harness := (true, "ffa180663340961709f30a29fd66f3c8f697e17b6d95ee164bfe8d1524d29a76"), looks := true }, kinds := [], alts := [], laidByText := true, laidKinds := [.data, .data, .data], laidTests := true, laidLooks := .later }
def DistMovesUptoCardSaid : Prop := Claim7.holds Tryz.pinned (.plain (OpenSpec.upto distMovesSpec)) distMovesUptoCard
end Rows
end Go.Proofs.YtolejdhnnchfpaaGreatDoor
