/-
  DERIVED. GIVEN WITH THE SEED: THE CARDS: each row of YtcjolkgjhcdhcaaGreatDoorRows.lean that lists a variable, with what it lists TIED to the program's text (the seventh form; the later family's looks); each row that meets fmt, with fmt's text TOLD by the authors' own Lean function (tested against real Go, not proved from fmt's source: count such statements apart). THE CARD IS WHAT COUNTS. Prove the row's statement (the work); the ties are given (YtcjolkgjhcdhcaaGreatDoorTie.lean); close each card by the builder's one call (the guide's Derived/Test/ToyasCard.lean, 'card_holds'). Laid BY PROGRAM, IN A SANDBOX (cutbox-door.mjs). By AI agents, Wed Nov 11 2026. No macro, syntax, notation, axiom, sorry.
-/
import Derived.Test.YtcjolkgjhcdhcaaGreatDoorRows
import GoSem.ClaimSeven
namespace Go.Proofs.YtcjolkgjhcdhcaaGreatDoor
namespace Rows

/-- THE TIED CARD OF 'clockworklaw26.MvschedDeps'. -/
def mvschedDepsCard : Claim7 := { stood := { row := mvschedDepsRow, standIns := [], harness := (true, "faaeb6a4f177fea4033277f1825703f939ef5a966dc6eb3ee166430b3e42ed81"), looks := true }, kinds := [], alts := [], laidByText := true, laidKinds := [.data, .data, .data], laidTests := true, laidLooks := .later }
def MvschedDepsCardSaid : Prop := Claim7.holds Tryz.pinned (.plain (OpenSpec.ofChange mvschedDepsSpec)) mvschedDepsCard

/-- THE TIED CARD OF 'clockworklaw26.MvschedVisible'. -/
def mvschedVisibleCard : Claim7 := { stood := { row := mvschedVisibleRow, standIns := [], harness := (true, "faaeb6a4f177fea4033277f1825703f939ef5a966dc6eb3ee166430b3e42ed81"), looks := true }, kinds := [], alts := [], laidByText := true, laidKinds := [.data, .data, .data], laidTests := true, laidLooks := .later }
def MvschedVisibleCardSaid : Prop := Claim7.holds Tryz.pinned (.plain (OpenSpec.ofChange mvschedVisibleSpec)) mvschedVisibleCard

/-- THE TIED CARD OF 'clockworklaw26.MvschedRounds'. -/
def mvschedRoundsCard : Claim7 := { stood := { row := mvschedRoundsRow, standIns := [], harness := (true, "faaeb6a4f177fea4033277f1825703f939ef5a966dc6eb3ee166430b3e42ed81"), looks := true }, kinds := [], alts := [], laidByText := true, laidKinds := [.data, .data, .data], laidTests := true, laidLooks := .later }
def MvschedRoundsCardSaid : Prop := Claim7.holds Tryz.pinned (.plain (OpenSpec.ofChange mvschedRoundsSpec)) mvschedRoundsCard

/-- THE TIED CARD OF 'clockworklaw26.MvschedOrders'. -/
def mvschedOrdersCard : Claim7 := { stood := { row := mvschedOrdersRow, standIns := [], harness := (true, "faaeb6a4f177fea4033277f1825703f939ef5a966dc6eb3ee166430b3e42ed81"), looks := true }, kinds := [], alts := [], laidByText := true, laidKinds := [.data, .data, .data], laidTests := true, laidLooks := .later }
def MvschedOrdersCardSaid : Prop := Claim7.holds Tryz.pinned (.plain (OpenSpec.ofChange mvschedOrdersSpec)) mvschedOrdersCard

/-- THE TIED CARD OF 'clockworklaw26.MvschedEarly'. -/
def mvschedEarlyCard : Claim7 := { stood := { row := mvschedEarlyRow, standIns := [], harness := (true, "faaeb6a4f177fea4033277f1825703f939ef5a966dc6eb3ee166430b3e42ed81"), looks := true }, kinds := [], alts := [], laidByText := true, laidKinds := [.data, .data, .data], laidTests := true, laidLooks := .later }
def MvschedEarlyCardSaid : Prop := Claim7.holds Tryz.pinned (.plain (OpenSpec.ofChange mvschedEarlySpec)) mvschedEarlyCard

/-- THE TIED CARD OF 'clockworklaw26.MvschedConflicts'. -/
def mvschedConflictsCard : Claim7 := { stood := { row := mvschedConflictsRow, standIns := [], harness := (true, "faaeb6a4f177fea4033277f1825703f939ef5a966dc6eb3ee166430b3e42ed81"), looks := true }, kinds := [], alts := [], laidByText := true, laidKinds := [.data, .data, .data], laidTests := true, laidLooks := .later }
def MvschedConflictsCardSaid : Prop := Claim7.holds Tryz.pinned (.plain (OpenSpec.ofChange mvschedConflictsSpec)) mvschedConflictsCard

/-- THE TIED CARD OF 'clockworklaw26.MvschedSerial'. -/
def mvschedSerialCard : Claim7 := { stood := { row := mvschedSerialRow, standIns := [], harness := (true, "faaeb6a4f177fea4033277f1825703f939ef5a966dc6eb3ee166430b3e42ed81"), looks := true }, kinds := [], alts := [], laidByText := true, laidKinds := [.data, .data, .data], laidTests := true, laidLooks := .later }
def MvschedSerialCardSaid : Prop := Claim7.holds Tryz.pinned (.plain (OpenSpec.ofChange mvschedSerialSpec)) mvschedSerialCard

/-- THE SECOND FORM's CARD OF 'clockworklaw26.MvschedDeps'. -/
def mvschedDepsUptoCard : Claim7 := { stood := { row := mvschedDepsUptoRow, standIns := [], harness := (true, "faaeb6a4f177fea4033277f1825703f939ef5a966dc6eb3ee166430b3e42ed81"), looks := true }, kinds := [], alts := [], laidByText := true, laidKinds := [.data, .data, .data], laidTests := true, laidLooks := .later }
def MvschedDepsUptoCardSaid : Prop := Claim7.holds Tryz.pinned (.plain (OpenSpec.upto mvschedDepsSpec)) mvschedDepsUptoCard

/-- THE SECOND FORM's CARD OF 'clockworklaw26.MvschedVisible'. -/
def mvschedVisibleUptoCard : Claim7 := { stood := { row := mvschedVisibleUptoRow, standIns := [], harness := (true, "faaeb6a4f177fea4033277f1825703f939ef5a966dc6eb3ee166430b3e42ed81"), looks := true }, kinds := [], alts := [], laidByText := true, laidKinds := [.data, .data, .data], laidTests := true, laidLooks := .later }
def MvschedVisibleUptoCardSaid : Prop := Claim7.holds Tryz.pinned (.plain (OpenSpec.upto mvschedVisibleSpec)) mvschedVisibleUptoCard

/-- THE SECOND FORM's CARD OF 'clockworklaw26.MvschedRounds'. -/
def mvschedRoundsUptoCard : Claim7 := { stood := { row := mvschedRoundsUptoRow, standIns := [], harness := (true, "faaeb6a4f177fea4033277f1825703f939ef5a966dc6eb3ee166430b3e42ed81"), looks := true }, kinds := [], alts := [], laidByText := true, laidKinds := [.data, .data, .data], laidTests := true, laidLooks := .later }
def MvschedRoundsUptoCardSaid : Prop := Claim7.holds Tryz.pinned (.plain (OpenSpec.upto mvschedRoundsSpec)) mvschedRoundsUptoCard

/-- THE SECOND FORM's CARD OF 'clockworklaw26.MvschedOrders'. -/
def mvschedOrdersUptoCard : Claim7 := { stood := { row := mvschedOrdersUptoRow, standIns := [], harness := (true, "faaeb6a4f177fea4033277f1825703f939ef5a966dc6eb3ee166430b3e42ed81"), looks := true }, kinds := [], alts := [], laidByText := true, laidKinds := [.data, .data, .data], laidTests := true, laidLooks := .later }
def MvschedOrdersUptoCardSaid : Prop := Claim7.holds Tryz.pinned (.plain (OpenSpec.upto mvschedOrdersSpec)) mvschedOrdersUptoCard

/-- THE SECOND FORM's CARD OF 'clockworklaw26.MvschedEarly'. -/
def mvschedEarlyUptoCard : Claim7 := { stood := { row := mvschedEarlyUptoRow, standIns := [], harness := (true, "faaeb6a4f177fea4033277f1825703f939ef5a966dc6eb3ee166430b3e42ed81"), looks := true }, kinds := [], alts := [], laidByText := true, laidKinds := [.data, .data, .data], laidTests := true, laidLooks := .later }
def MvschedEarlyUptoCardSaid : Prop := Claim7.holds Tryz.pinned (.plain (OpenSpec.upto mvschedEarlySpec)) mvschedEarlyUptoCard

/-- THE SECOND FORM's CARD OF 'clockworklaw26.MvschedConflicts'. -/
def mvschedConflictsUptoCard : Claim7 := { stood := { row := mvschedConflictsUptoRow, standIns := [], harness := (true, "faaeb6a4f177fea4033277f1825703f939ef5a966dc6eb3ee166430b3e42ed81"), looks := true }, kinds := [], alts := [], laidByText := true, laidKinds := [.data, .data, .data], laidTests := true, laidLooks := .later }
def MvschedConflictsUptoCardSaid : Prop := Claim7.holds Tryz.pinned (.plain (OpenSpec.upto mvschedConflictsSpec)) mvschedConflictsUptoCard

/-- THE SECOND FORM's CARD OF 'clockworklaw26.MvschedSerial'. -/
def mvschedSerialUptoCard : Claim7 := { stood := { row := mvschedSerialUptoRow, standIns := [], harness := (true, "faaeb6a4f177fea4033277f1825703f939ef5a966dc6eb3ee166430b3e42ed81"), looks := true }, kinds := [], alts := [], laidByText := true, laidKinds := [.data, .data, .data], laidTests := true, laidLooks := .later }
def MvschedSerialUptoCardSaid : Prop := Claim7.holds Tryz.pinned (.plain (OpenSpec.upto mvschedSerialSpec)) mvschedSerialUptoCard
end Rows
end Go.Proofs.YtcjolkgjhcdhcaaGreatDoor
