/-
  DERIVED. GIVEN WITH THE SEED: THE CARDS: each row of YtcmbmfmpelnimaaGreatDoorRows.lean that lists a variable, with what it lists TIED to the program's text (the seventh form; the later family's looks); each row that meets fmt, with fmt's text TOLD by the authors' own Lean function (tested against real Go, not proved from fmt's source: count such statements apart). THE CARD IS WHAT COUNTS. Prove the row's statement (the work); the ties are given (YtcmbmfmpelnimaaGreatDoorTie.lean); close each card by the builder's one call (the guide's Derived/Test/ToyasCard.lean, 'card_holds'). Laid BY PROGRAM, IN A SANDBOX (cutbox-door.mjs). By AI agents, Wed Nov 11 2026. No macro, syntax, notation, axiom, sorry.
-/
import Derived.Test.YtcmbmfmpelnimaaGreatDoorRows
import GoSem.ClaimSeven
namespace Go.Proofs.YtcmbmfmpelnimaaGreatDoor
namespace Rows

/-- THE TIED CARD OF 'clockworklaw15.InterpRuns'. -/
def interpRunsCard : Claim7 := { stood := { row := interpRunsRow, standIns := [], harness := (true, "8ea1cddb22ed2b4427e87a60964700a5648e22978dfdafa781661040dc0172d1"), looks := true }, kinds := [], alts := [], laidByText := true, laidKinds := [.data, .data, .data], laidTests := true, laidLooks := .later }
def InterpRunsCardSaid : Prop := Claim7.holds Tryz.pinned (.plain (OpenSpec.ofChange interpRunsSpec)) interpRunsCard

/-- THE TIED CARD OF 'clockworklaw15.InterpEvals'. -/
def interpEvalsCard : Claim7 := { stood := { row := interpEvalsRow, standIns := [], harness := (true, "8ea1cddb22ed2b4427e87a60964700a5648e22978dfdafa781661040dc0172d1"), looks := true }, kinds := [], alts := [], laidByText := true, laidKinds := [.data, .data, .data], laidTests := true, laidLooks := .later }
def InterpEvalsCardSaid : Prop := Claim7.holds Tryz.pinned (.plain (OpenSpec.ofChange interpEvalsSpec)) interpEvalsCard

/-- THE TIED CARD OF 'clockworklaw27.OccRounds'. -/
def occRoundsCard : Claim7 := { stood := { row := occRoundsRow, standIns := [], harness := (true, "8ea1cddb22ed2b4427e87a60964700a5648e22978dfdafa781661040dc0172d1"), looks := true }, kinds := [], alts := [], laidByText := true, laidKinds := [.data, .data, .data], laidTests := true, laidLooks := .later }
def OccRoundsCardSaid : Prop := Claim7.holds Tryz.pinned (.plain (OpenSpec.ofChange occRoundsSpec)) occRoundsCard

/-- THE TIED CARD OF 'clockworklaw27.OccValid'. -/
def occValidCard : Claim7 := { stood := { row := occValidRow, standIns := [], harness := (true, "8ea1cddb22ed2b4427e87a60964700a5648e22978dfdafa781661040dc0172d1"), looks := true }, kinds := [], alts := [], laidByText := true, laidKinds := [.data, .data, .data], laidTests := true, laidLooks := .later }
def OccValidCardSaid : Prop := Claim7.holds Tryz.pinned (.plain (OpenSpec.ofChange occValidSpec)) occValidCard

/-- THE TIED CARD OF 'clockworklaw27.OccSerial'. -/
def occSerialCard : Claim7 := { stood := { row := occSerialRow, standIns := [], harness := (true, "8ea1cddb22ed2b4427e87a60964700a5648e22978dfdafa781661040dc0172d1"), looks := true }, kinds := [], alts := [], laidByText := true, laidKinds := [.data, .data, .data], laidTests := true, laidLooks := .later }
def OccSerialCardSaid : Prop := Claim7.holds Tryz.pinned (.plain (OpenSpec.ofChange occSerialSpec)) occSerialCard

/-- THE TIED CARD OF 'clockworklaw27.OccStands'. -/
def occStandsCard : Claim7 := { stood := { row := occStandsRow, standIns := [], harness := (true, "8ea1cddb22ed2b4427e87a60964700a5648e22978dfdafa781661040dc0172d1"), looks := true }, kinds := [], alts := [], laidByText := true, laidKinds := [.data, .data, .data], laidTests := true, laidLooks := .later }
def OccStandsCardSaid : Prop := Claim7.holds Tryz.pinned (.plain (OpenSpec.ofChange occStandsSpec)) occStandsCard

/-- THE SECOND FORM's CARD OF 'clockworklaw15.InterpRuns'. -/
def interpRunsUptoCard : Claim7 := { stood := { row := interpRunsUptoRow, standIns := [], harness := (true, "8ea1cddb22ed2b4427e87a60964700a5648e22978dfdafa781661040dc0172d1"), looks := true }, kinds := [], alts := [], laidByText := true, laidKinds := [.data, .data, .data], laidTests := true, laidLooks := .later }
def InterpRunsUptoCardSaid : Prop := Claim7.holds Tryz.pinned (.plain (OpenSpec.upto interpRunsSpec)) interpRunsUptoCard

/-- THE SECOND FORM's CARD OF 'clockworklaw15.InterpEvals'. -/
def interpEvalsUptoCard : Claim7 := { stood := { row := interpEvalsUptoRow, standIns := [], harness := (true, "8ea1cddb22ed2b4427e87a60964700a5648e22978dfdafa781661040dc0172d1"), looks := true }, kinds := [], alts := [], laidByText := true, laidKinds := [.data, .data, .data], laidTests := true, laidLooks := .later }
def InterpEvalsUptoCardSaid : Prop := Claim7.holds Tryz.pinned (.plain (OpenSpec.upto interpEvalsSpec)) interpEvalsUptoCard

/-- THE SECOND FORM's CARD OF 'clockworklaw27.OccRounds'. -/
def occRoundsUptoCard : Claim7 := { stood := { row := occRoundsUptoRow, standIns := [], harness := (true, "8ea1cddb22ed2b4427e87a60964700a5648e22978dfdafa781661040dc0172d1"), looks := true }, kinds := [], alts := [], laidByText := true, laidKinds := [.data, .data, .data], laidTests := true, laidLooks := .later }
def OccRoundsUptoCardSaid : Prop := Claim7.holds Tryz.pinned (.plain (OpenSpec.upto occRoundsSpec)) occRoundsUptoCard

/-- THE SECOND FORM's CARD OF 'clockworklaw27.OccValid'. -/
def occValidUptoCard : Claim7 := { stood := { row := occValidUptoRow, standIns := [], harness := (true, "8ea1cddb22ed2b4427e87a60964700a5648e22978dfdafa781661040dc0172d1"), looks := true }, kinds := [], alts := [], laidByText := true, laidKinds := [.data, .data, .data], laidTests := true, laidLooks := .later }
def OccValidUptoCardSaid : Prop := Claim7.holds Tryz.pinned (.plain (OpenSpec.upto occValidSpec)) occValidUptoCard

/-- THE SECOND FORM's CARD OF 'clockworklaw27.OccSerial'. -/
def occSerialUptoCard : Claim7 := { stood := { row := occSerialUptoRow, standIns := [], harness := (true, "8ea1cddb22ed2b4427e87a60964700a5648e22978dfdafa781661040dc0172d1"), looks := true }, kinds := [], alts := [], laidByText := true, laidKinds := [.data, .data, .data], laidTests := true, laidLooks := .later }
def OccSerialUptoCardSaid : Prop := Claim7.holds Tryz.pinned (.plain (OpenSpec.upto occSerialSpec)) occSerialUptoCard

/-- THE SECOND FORM's CARD OF 'clockworklaw27.OccStands'. -/
def occStandsUptoCard : Claim7 := { stood := { row := occStandsUptoRow, standIns := [], harness := (true, "8ea1cddb22ed2b4427e87a60964700a5648e22978dfdafa781661040dc0172d1"), looks := true }, kinds := [], alts := [], laidByText := true, laidKinds := [.data, .data, .data], laidTests := true, laidLooks := .later }
def OccStandsUptoCardSaid : Prop := Claim7.holds Tryz.pinned (.plain (OpenSpec.upto occStandsSpec)) occStandsUptoCard
end Rows
end Go.Proofs.YtcmbmfmpelnimaaGreatDoor
