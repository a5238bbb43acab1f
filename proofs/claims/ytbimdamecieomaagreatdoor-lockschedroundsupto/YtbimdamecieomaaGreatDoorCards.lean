/-
  DERIVED. GIVEN WITH THE SEED: THE CARDS: each row of YtbimdamecieomaaGreatDoorRows.lean that lists a variable, with what it lists TIED to the program's text (the seventh form; the later family's looks); each row that meets fmt, with fmt's text TOLD by the authors' own Lean function (tested against real Go, not proved from fmt's source: count such statements apart). THE CARD IS WHAT COUNTS. Prove the row's statement (the work); the ties are given (YtbimdamecieomaaGreatDoorTie.lean); close each card by the builder's one call (the guide's Derived/Test/ToyasCard.lean, 'card_holds'). Laid BY PROGRAM, IN A SANDBOX (cutbox-door.mjs). By AI agents, Wed Nov 11 2026. No macro, syntax, notation, axiom, sorry.
-/
import Derived.Test.YtbimdamecieomaaGreatDoorRows
import GoSem.ClaimSeven
namespace Go.Proofs.YtbimdamecieomaaGreatDoor
namespace Rows

/-- THE TIED CARD OF 'clockworklaw24.LockschedRounds'. -/
def lockschedRoundsCard : Claim7 := { stood := { row := lockschedRoundsRow, standIns := [], harness := (true, "c355f0e2ce1ba0861529f3a348e8457ba496cd4f3ae116bacab6a97f7e3d2a03"), looks := true }, kinds := [], alts := [], laidByText := true, laidKinds := [.data, .data, .data], laidTests := true, laidLooks := .later }
def LockschedRoundsCardSaid : Prop := Claim7.holds Tryz.pinned (.plain (OpenSpec.ofChange lockschedRoundsSpec)) lockschedRoundsCard

/-- THE TIED CARD OF 'clockworklaw24.LockschedSerial'. -/
def lockschedSerialCard : Claim7 := { stood := { row := lockschedSerialRow, standIns := [], harness := (true, "c355f0e2ce1ba0861529f3a348e8457ba496cd4f3ae116bacab6a97f7e3d2a03"), looks := true }, kinds := [], alts := [], laidByText := true, laidKinds := [.data, .data, .data], laidTests := true, laidLooks := .later }
def LockschedSerialCardSaid : Prop := Claim7.holds Tryz.pinned (.plain (OpenSpec.ofChange lockschedSerialSpec)) lockschedSerialCard

/-- THE TIED CARD OF 'clockworklaw24.LockschedSwaps'. -/
def lockschedSwapsCard : Claim7 := { stood := { row := lockschedSwapsRow, standIns := [], harness := (true, "c355f0e2ce1ba0861529f3a348e8457ba496cd4f3ae116bacab6a97f7e3d2a03"), looks := true }, kinds := [], alts := [], laidByText := true, laidKinds := [.data, .data, .data], laidTests := true, laidLooks := .later }
def LockschedSwapsCardSaid : Prop := Claim7.holds Tryz.pinned (.plain (OpenSpec.ofChange lockschedSwapsSpec)) lockschedSwapsCard

/-- THE TIED CARD OF 'clockworklaw24.LockschedReplays'. -/
def lockschedReplaysCard : Claim7 := { stood := { row := lockschedReplaysRow, standIns := [], harness := (true, "c355f0e2ce1ba0861529f3a348e8457ba496cd4f3ae116bacab6a97f7e3d2a03"), looks := true }, kinds := [], alts := [], laidByText := true, laidKinds := [.data, .data, .data], laidTests := true, laidLooks := .later }
def LockschedReplaysCardSaid : Prop := Claim7.holds Tryz.pinned (.plain (OpenSpec.ofChange lockschedReplaysSpec)) lockschedReplaysCard

/-- THE TIED CARD OF 'clockworklaw24.LockschedOrders'. -/
def lockschedOrdersCard : Claim7 := { stood := { row := lockschedOrdersRow, standIns := [], harness := (true, "c355f0e2ce1ba0861529f3a348e8457ba496cd4f3ae116bacab6a97f7e3d2a03"), looks := true }, kinds := [], alts := [], laidByText := true, laidKinds := [.data, .data, .data], laidTests := true, laidLooks := .later }
def LockschedOrdersCardSaid : Prop := Claim7.holds Tryz.pinned (.plain (OpenSpec.ofChange lockschedOrdersSpec)) lockschedOrdersCard

/-- THE SECOND FORM's CARD OF 'clockworklaw24.LockschedRounds'. -/
def lockschedRoundsUptoCard : Claim7 := { stood := { row := lockschedRoundsUptoRow, standIns := [], harness := (true, "c355f0e2ce1ba0861529f3a348e8457ba496cd4f3ae116bacab6a97f7e3d2a03"), looks := true }, kinds := [], alts := [], laidByText := true, laidKinds := [.data, .data, .data], laidTests := true, laidLooks := .later }
def LockschedRoundsUptoCardSaid : Prop := Claim7.holds Tryz.pinned (.plain (OpenSpec.upto lockschedRoundsSpec)) lockschedRoundsUptoCard

/-- THE SECOND FORM's CARD OF 'clockworklaw24.LockschedSerial'. -/
def lockschedSerialUptoCard : Claim7 := { stood := { row := lockschedSerialUptoRow, standIns := [], harness := (true, "c355f0e2ce1ba0861529f3a348e8457ba496cd4f3ae116bacab6a97f7e3d2a03"), looks := true }, kinds := [], alts := [], laidByText := true, laidKinds := [.data, .data, .data], laidTests := true, laidLooks := .later }
def LockschedSerialUptoCardSaid : Prop := Claim7.holds Tryz.pinned (.plain (OpenSpec.upto lockschedSerialSpec)) lockschedSerialUptoCard

/-- THE SECOND FORM's CARD OF 'clockworklaw24.LockschedSwaps'. -/
def lockschedSwapsUptoCard : Claim7 := { stood := { row := lockschedSwapsUptoRow, standIns := [], harness := (true, "c355f0e2ce1ba0861529f3a348e8457ba496cd4f3ae116bacab6a97f7e3d2a03"), looks := true }, kinds := [], alts := [], laidByText := true, laidKinds := [.data, .data, .data], laidTests := true, laidLooks := .later }
def LockschedSwapsUptoCardSaid : Prop := Claim7.holds Tryz.pinned (.plain (OpenSpec.upto lockschedSwapsSpec)) lockschedSwapsUptoCard

/-- THE SECOND FORM's CARD OF 'clockworklaw24.LockschedReplays'. -/
def lockschedReplaysUptoCard : Claim7 := { stood := { row := lockschedReplaysUptoRow, standIns := [], harness := (true, "c355f0e2ce1ba0861529f3a348e8457ba496cd4f3ae116bacab6a97f7e3d2a03"), looks := true }, kinds := [], alts := [], laidByText := true, laidKinds := [.data, .data, .data], laidTests := true, laidLooks := .later }
def LockschedReplaysUptoCardSaid : Prop := Claim7.holds Tryz.pinned (.plain (OpenSpec.upto lockschedReplaysSpec)) lockschedReplaysUptoCard

/-- THE SECOND FORM's CARD OF 'clockworklaw24.LockschedOrders'. -/
def lockschedOrdersUptoCard : Claim7 := { stood := { row := lockschedOrdersUptoRow, standIns := [], harness := (true, "c355f0e2ce1ba0861529f3a348e8457ba496cd4f3ae116bacab6a97f7e3d2a03"), looks := true }, kinds := [], alts := [], laidByText := true, laidKinds := [.data, .data, .data], laidTests := true, laidLooks := .later }
def LockschedOrdersUptoCardSaid : Prop := Claim7.holds Tryz.pinned (.plain (OpenSpec.upto lockschedOrdersSpec)) lockschedOrdersUptoCard
end Rows
end Go.Proofs.YtbimdamecieomaaGreatDoor
