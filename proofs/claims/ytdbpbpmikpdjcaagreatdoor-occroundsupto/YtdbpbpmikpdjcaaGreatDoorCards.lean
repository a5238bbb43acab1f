/-
  DERIVED. GIVEN WITH THE SEED: THE CARDS: each row of YtdbpbpmikpdjcaaGreatDoorRows.lean that lists a variable, with what it lists TIED to the program's text (the seventh form; the later family's looks); each row that meets fmt, with fmt's text TOLD by the authors' own Lean function (tested against real Go, not proved from fmt's source: count such statements apart). THE CARD IS WHAT COUNTS. Prove the row's statement (the work); the ties are given (YtdbpbpmikpdjcaaGreatDoorTie.lean); close each card by the builder's one call (the guide's Derived/Test/ToyasCard.lean, 'card_holds'). Laid BY PROGRAM, IN A SANDBOX (cutbox-door.mjs). By AI agents, Wed Nov 11 2026. No macro, syntax, notation, axiom, sorry.
-/
import Derived.Test.YtdbpbpmikpdjcaaGreatDoorRows
import GoSem.ClaimSeven
namespace Go.Proofs.YtdbpbpmikpdjcaaGreatDoor
namespace Rows

/-- THE TIED CARD OF 'clockworklaw27.OccRounds'. -/
def occRoundsCard : Claim7 := { stood := { row := occRoundsRow, standIns := [], harness := (true, "cd4d749d148a8134939ade201ad0bb5137d2f3f64a540cfe979946b264bb15ea"), looks := true }, kinds := [], alts := [], laidByText := true, laidKinds := [.data, .data, .data], laidTests := true, laidLooks := .later }
def OccRoundsCardSaid : Prop := Claim7.holds Tryz.pinned (.plain (OpenSpec.ofChange occRoundsSpec)) occRoundsCard

/-- THE TIED CARD OF 'clockworklaw21.SerialOnes'. -/
def serialOnesCard : Claim7 := { stood := { row := serialOnesRow, standIns := [], harness := (true, "cd4d749d148a8134939ade201ad0bb5137d2f3f64a540cfe979946b264bb15ea"), looks := true }, kinds := [], alts := [], laidByText := true, laidKinds := [.data, .data, .data], laidTests := true, laidLooks := .later }
def SerialOnesCardSaid : Prop := Claim7.holds Tryz.pinned (.plain (OpenSpec.ofChange serialOnesSpec)) serialOnesCard

/-- THE TIED CARD OF 'clockworklaw21.SerialRetries'. -/
def serialRetriesCard : Claim7 := { stood := { row := serialRetriesRow, standIns := [], harness := (true, "cd4d749d148a8134939ade201ad0bb5137d2f3f64a540cfe979946b264bb15ea"), looks := true }, kinds := [], alts := [], laidByText := true, laidKinds := [.data, .data, .data], laidTests := true, laidLooks := .later }
def SerialRetriesCardSaid : Prop := Claim7.holds Tryz.pinned (.plain (OpenSpec.ofChange serialRetriesSpec)) serialRetriesCard

/-- THE TIED CARD OF 'clockworklaw21.SerialBatches'. -/
def serialBatchesCard : Claim7 := { stood := { row := serialBatchesRow, standIns := [], harness := (true, "cd4d749d148a8134939ade201ad0bb5137d2f3f64a540cfe979946b264bb15ea"), looks := true }, kinds := [], alts := [], laidByText := true, laidKinds := [.data, .data, .data], laidTests := true, laidLooks := .later }
def SerialBatchesCardSaid : Prop := Claim7.holds Tryz.pinned (.plain (OpenSpec.ofChange serialBatchesSpec)) serialBatchesCard

/-- THE TIED CARD OF 'clockworklaw21.SerialReconCommits'. -/
def serialReconCommitsCard : Claim7 := { stood := { row := serialReconCommitsRow, standIns := [], harness := (true, "cd4d749d148a8134939ade201ad0bb5137d2f3f64a540cfe979946b264bb15ea"), looks := true }, kinds := [], alts := [], laidByText := true, laidKinds := [.data, .data, .data], laidTests := true, laidLooks := .later }
def SerialReconCommitsCardSaid : Prop := Claim7.holds Tryz.pinned (.plain (OpenSpec.ofChange serialReconCommitsSpec)) serialReconCommitsCard

/-- THE TIED CARD OF 'clockworklaw21.SerialStays'. -/
def serialStaysCard : Claim7 := { stood := { row := serialStaysRow, standIns := [], harness := (true, "cd4d749d148a8134939ade201ad0bb5137d2f3f64a540cfe979946b264bb15ea"), looks := true }, kinds := [], alts := [], laidByText := true, laidKinds := [.data, .data, .data], laidTests := true, laidLooks := .later }
def SerialStaysCardSaid : Prop := Claim7.holds Tryz.pinned (.plain (OpenSpec.ofChange serialStaysSpec)) serialStaysCard

/-- THE TIED CARD OF 'clockworklaw21.SerialEnds'. -/
def serialEndsCard : Claim7 := { stood := { row := serialEndsRow, standIns := [], harness := (true, "cd4d749d148a8134939ade201ad0bb5137d2f3f64a540cfe979946b264bb15ea"), looks := true }, kinds := [], alts := [], laidByText := true, laidKinds := [.data, .data, .data], laidTests := true, laidLooks := .later }
def SerialEndsCardSaid : Prop := Claim7.holds Tryz.pinned (.plain (OpenSpec.ofChange serialEndsSpec)) serialEndsCard

/-- THE TIED CARD OF 'clockworklaw21.SerialRounds'. -/
def serialRoundsCard : Claim7 := { stood := { row := serialRoundsRow, standIns := [], harness := (true, "cd4d749d148a8134939ade201ad0bb5137d2f3f64a540cfe979946b264bb15ea"), looks := true }, kinds := [], alts := [], laidByText := true, laidKinds := [.data, .data, .data], laidTests := true, laidLooks := .later }
def SerialRoundsCardSaid : Prop := Claim7.holds Tryz.pinned (.plain (OpenSpec.ofChange serialRoundsSpec)) serialRoundsCard

/-- THE TIED CARD OF 'clockworklaw21.SerialSplits'. -/
def serialSplitsCard : Claim7 := { stood := { row := serialSplitsRow, standIns := [], harness := (true, "cd4d749d148a8134939ade201ad0bb5137d2f3f64a540cfe979946b264bb15ea"), looks := true }, kinds := [], alts := [], laidByText := true, laidKinds := [.data, .data, .data], laidTests := true, laidLooks := .later }
def SerialSplitsCardSaid : Prop := Claim7.holds Tryz.pinned (.plain (OpenSpec.ofChange serialSplitsSpec)) serialSplitsCard

/-- THE TIED CARD OF 'clockworklaw21.SerialFinds'. -/
def serialFindsCard : Claim7 := { stood := { row := serialFindsRow, standIns := [], harness := (true, "cd4d749d148a8134939ade201ad0bb5137d2f3f64a540cfe979946b264bb15ea"), looks := true }, kinds := [], alts := [], laidByText := true, laidKinds := [.data, .data, .data], laidTests := true, laidLooks := .later }
def SerialFindsCardSaid : Prop := Claim7.holds Tryz.pinned (.plain (OpenSpec.ofChange serialFindsSpec)) serialFindsCard

/-- THE SECOND FORM's CARD OF 'clockworklaw27.OccRounds'. -/
def occRoundsUptoCard : Claim7 := { stood := { row := occRoundsUptoRow, standIns := [], harness := (true, "cd4d749d148a8134939ade201ad0bb5137d2f3f64a540cfe979946b264bb15ea"), looks := true }, kinds := [], alts := [], laidByText := true, laidKinds := [.data, .data, .data], laidTests := true, laidLooks := .later }
def OccRoundsUptoCardSaid : Prop := Claim7.holds Tryz.pinned (.plain (OpenSpec.upto occRoundsSpec)) occRoundsUptoCard

/-- THE SECOND FORM's CARD OF 'clockworklaw21.SerialOnes'. -/
def serialOnesUptoCard : Claim7 := { stood := { row := serialOnesUptoRow, standIns := [], harness := (true, "cd4d749d148a8134939ade201ad0bb5137d2f3f64a540cfe979946b264bb15ea"), looks := true }, kinds := [], alts := [], laidByText := true, laidKinds := [.data, .data, .data], laidTests := true, laidLooks := .later }
def SerialOnesUptoCardSaid : Prop := Claim7.holds Tryz.pinned (.plain (OpenSpec.upto serialOnesSpec)) serialOnesUptoCard

/-- THE SECOND FORM's CARD OF 'clockworklaw21.SerialRetries'. -/
def serialRetriesUptoCard : Claim7 := { stood := { row := serialRetriesUptoRow, standIns := [], harness := (true, "cd4d749d148a8134939ade201ad0bb5137d2f3f64a540cfe979946b264bb15ea"), looks := true }, kinds := [], alts := [], laidByText := true, laidKinds := [.data, .data, .data], laidTests := true, laidLooks := .later }
def SerialRetriesUptoCardSaid : Prop := Claim7.holds Tryz.pinned (.plain (OpenSpec.upto serialRetriesSpec)) serialRetriesUptoCard

/-- THE SECOND FORM's CARD OF 'clockworklaw21.SerialBatches'. -/
def serialBatchesUptoCard : Claim7 := { stood := { row := serialBatchesUptoRow, standIns := [], harness := (true, "cd4d749d148a8134939ade201ad0bb5137d2f3f64a540cfe979946b264bb15ea"), looks := true }, kinds := [], alts := [], laidByText := true, laidKinds := [.data, .data, .data], laidTests := true, laidLooks := .later }
def SerialBatchesUptoCardSaid : Prop := Claim7.holds Tryz.pinned (.plain (OpenSpec.upto serialBatchesSpec)) serialBatchesUptoCard

/-- THE SECOND FORM's CARD OF 'clockworklaw21.SerialReconCommits'. -/
def serialReconCommitsUptoCard : Claim7 := { stood := { row := serialReconCommitsUptoRow, standIns := [], harness := (true, "cd4d749d148a8134939ade201ad0bb5137d2f3f64a540cfe979946b264bb15ea"), looks := true }, kinds := [], alts := [], laidByText := true, laidKinds := [.data, .data, .data], laidTests := true, laidLooks := .later }
def SerialReconCommitsUptoCardSaid : Prop := Claim7.holds Tryz.pinned (.plain (OpenSpec.upto serialReconCommitsSpec)) serialReconCommitsUptoCard

/-- THE SECOND FORM's CARD OF 'clockworklaw21.SerialStays'. -/
def serialStaysUptoCard : Claim7 := { stood := { row := serialStaysUptoRow, standIns := [], harness := (true, "cd4d749d148a8134939ade201ad0bb5137d2f3f64a540cfe979946b264bb15ea"), looks := true }, kinds := [], alts := [], laidByText := true, laidKinds := [.data, .data, .data], laidTests := true, laidLooks := .later }
def SerialStaysUptoCardSaid : Prop := Claim7.holds Tryz.pinned (.plain (OpenSpec.upto serialStaysSpec)) serialStaysUptoCard

/-- THE SECOND FORM's CARD OF 'clockworklaw21.SerialEnds'. -/
def serialEndsUptoCard : Claim7 := { stood := { row := serialEndsUptoRow, standIns := [], harness := (true, "cd4d749d148a8134939ade201ad0bb5137d2f3f64a540cfe979946b264bb15ea"), looks := true }, kinds := [], alts := [], laidByText := true, laidKinds := [.data, .data, .data], laidTests := true, laidLooks := .later }
def SerialEndsUptoCardSaid : Prop := Claim7.holds Tryz.pinned (.plain (OpenSpec.upto serialEndsSpec)) serialEndsUptoCard

/-- THE SECOND FORM's CARD OF 'clockworklaw21.SerialRounds'. -/
def serialRoundsUptoCard : Claim7 := { stood := { row := serialRoundsUptoRow, standIns := [], harness := (true, "cd4d749d148a8134939ade201ad0bb5137d2f3f64a540cfe979946b264bb15ea"), looks := true }, kinds := [], alts := [], laidByText := true, laidKinds := [.data, .data, .data], laidTests := true, laidLooks := .later }
def SerialRoundsUptoCardSaid : Prop := Claim7.holds Tryz.pinned (.plain (OpenSpec.upto serialRoundsSpec)) serialRoundsUptoCard

/-- THE SECOND FORM's CARD OF 'clockworklaw21.SerialSplits'. -/
def serialSplitsUptoCard : Claim7 := { stood := { row := serialSplitsUptoRow, standIns := [], harness := (true, "cd4d749d148a8134939ade201ad0bb5137d2f3f64a540cfe979946b264bb15ea"), looks := true }, kinds := [], alts := [], laidByText := true, laidKinds := [.data, .data, .data], laidTests := true, laidLooks := .later }
def SerialSplitsUptoCardSaid : Prop := Claim7.holds Tryz.pinned (.plain (OpenSpec.upto serialSplitsSpec)) serialSplitsUptoCard

/-- THE SECOND FORM's CARD OF 'clockworklaw21.SerialFinds'. -/
def serialFindsUptoCard : Claim7 := { stood := { row := serialFindsUptoRow, standIns := [], harness := (true, "cd4d749d148a8134939ade201ad0bb5137d2f3f64a540cfe979946b264bb15ea"), looks := true }, kinds := [], alts := [], laidByText := true, laidKinds := [.data, .data, .data], laidTests := true, laidLooks := .later }
def SerialFindsUptoCardSaid : Prop := Claim7.holds Tryz.pinned (.plain (OpenSpec.upto serialFindsSpec)) serialFindsUptoCard
end Rows
end Go.Proofs.YtdbpbpmikpdjcaaGreatDoor
