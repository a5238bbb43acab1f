/-
  DERIVED. GIVEN WITH THE SEED: THE CARDS: each row of YtilhejdbiionhaaGreatDoorRows.lean that lists a variable, with what it lists TIED to the program's text (the seventh form; the later family's looks); each row that meets fmt, with fmt's text TOLD by the authors' own Lean function (tested against real Go, not proved from fmt's source: count such statements apart). THE CARD IS WHAT COUNTS. Prove the row's statement (the work); the ties are given (YtilhejdbiionhaaGreatDoorTie.lean); close each card by the builder's one call (the guide's Derived/Test/ToyasCard.lean, 'card_holds'). Laid BY PROGRAM, IN A SANDBOX (cutbox-door.mjs). By AI agents, Wed Nov 11 2026. No macro, syntax, notation, axiom, sorry.
-/
import Derived.Test.YtilhejdbiionhaaGreatDoorRows
import GoSem.ClaimSeven
namespace Go.Proofs.YtilhejdbiionhaaGreatDoor
namespace Rows

/-- THE TIED CARD OF 'clockworklaw20.PredictRecon'. -/
def predictReconCard : Claim7 := { stood := { row := predictReconRow, standIns := [], harness := (true, "474cb5a423e0992e9cd509678839adc672c3484cb860a29ef792bb5047885aab"), looks := true }, kinds := [], alts := [], laidByText := true, laidKinds := [.data, .data, .data], laidTests := true, laidLooks := .later }
def PredictReconCardSaid : Prop := Claim7.holds Tryz.pinned (.plain (OpenSpec.ofChange predictReconSpec)) predictReconCard

/-- THE TIED CARD OF 'clockworklaw20.PredictSound'. -/
def predictSoundCard : Claim7 := { stood := { row := predictSoundRow, standIns := [], harness := (true, "474cb5a423e0992e9cd509678839adc672c3484cb860a29ef792bb5047885aab"), looks := true }, kinds := [], alts := [], laidByText := true, laidKinds := [.data, .data, .data], laidTests := true, laidLooks := .later }
def PredictSoundCardSaid : Prop := Claim7.holds Tryz.pinned (.plain (OpenSpec.ofChange predictSoundSpec)) predictSoundCard

/-- THE TIED CARD OF 'clockworklaw20.PredictExact'. -/
def predictExactCard : Claim7 := { stood := { row := predictExactRow, standIns := [], harness := (true, "474cb5a423e0992e9cd509678839adc672c3484cb860a29ef792bb5047885aab"), looks := true }, kinds := [], alts := [], laidByText := true, laidKinds := [.data, .data, .data], laidTests := true, laidLooks := .later }
def PredictExactCardSaid : Prop := Claim7.holds Tryz.pinned (.plain (OpenSpec.ofChange predictExactSpec)) predictExactCard

/-- THE TIED CARD OF 'clockworklaw20.PredictCovers'. -/
def predictCoversCard : Claim7 := { stood := { row := predictCoversRow, standIns := [], harness := (true, "474cb5a423e0992e9cd509678839adc672c3484cb860a29ef792bb5047885aab"), looks := true }, kinds := [], alts := [], laidByText := true, laidKinds := [.data, .data, .data], laidTests := true, laidLooks := .later }
def PredictCoversCardSaid : Prop := Claim7.holds Tryz.pinned (.plain (OpenSpec.ofChange predictCoversSpec)) predictCoversCard

/-- THE TIED CARD OF 'clockworklaw20.PredictIndependent'. -/
def predictIndependentCard : Claim7 := { stood := { row := predictIndependentRow, standIns := [], harness := (true, "474cb5a423e0992e9cd509678839adc672c3484cb860a29ef792bb5047885aab"), looks := true }, kinds := [], alts := [], laidByText := true, laidKinds := [.data, .data, .data], laidTests := true, laidLooks := .later }
def PredictIndependentCardSaid : Prop := Claim7.holds Tryz.pinned (.plain (OpenSpec.ofChange predictIndependentSpec)) predictIndependentCard

/-- THE SECOND FORM's CARD OF 'clockworklaw20.PredictRecon'. -/
def predictReconUptoCard : Claim7 := { stood := { row := predictReconUptoRow, standIns := [], harness := (true, "474cb5a423e0992e9cd509678839adc672c3484cb860a29ef792bb5047885aab"), looks := true }, kinds := [], alts := [], laidByText := true, laidKinds := [.data, .data, .data], laidTests := true, laidLooks := .later }
def PredictReconUptoCardSaid : Prop := Claim7.holds Tryz.pinned (.plain (OpenSpec.upto predictReconSpec)) predictReconUptoCard

/-- THE SECOND FORM's CARD OF 'clockworklaw20.PredictSound'. -/
def predictSoundUptoCard : Claim7 := { stood := { row := predictSoundUptoRow, standIns := [], harness := (true, "474cb5a423e0992e9cd509678839adc672c3484cb860a29ef792bb5047885aab"), looks := true }, kinds := [], alts := [], laidByText := true, laidKinds := [.data, .data, .data], laidTests := true, laidLooks := .later }
def PredictSoundUptoCardSaid : Prop := Claim7.holds Tryz.pinned (.plain (OpenSpec.upto predictSoundSpec)) predictSoundUptoCard

/-- THE SECOND FORM's CARD OF 'clockworklaw20.PredictExact'. -/
def predictExactUptoCard : Claim7 := { stood := { row := predictExactUptoRow, standIns := [], harness := (true, "474cb5a423e0992e9cd509678839adc672c3484cb860a29ef792bb5047885aab"), looks := true }, kinds := [], alts := [], laidByText := true, laidKinds := [.data, .data, .data], laidTests := true, laidLooks := .later }
def PredictExactUptoCardSaid : Prop := Claim7.holds Tryz.pinned (.plain (OpenSpec.upto predictExactSpec)) predictExactUptoCard

/-- THE SECOND FORM's CARD OF 'clockworklaw20.PredictCovers'. -/
def predictCoversUptoCard : Claim7 := { stood := { row := predictCoversUptoRow, standIns := [], harness := (true, "474cb5a423e0992e9cd509678839adc672c3484cb860a29ef792bb5047885aab"), looks := true }, kinds := [], alts := [], laidByText := true, laidKinds := [.data, .data, .data], laidTests := true, laidLooks := .later }
def PredictCoversUptoCardSaid : Prop := Claim7.holds Tryz.pinned (.plain (OpenSpec.upto predictCoversSpec)) predictCoversUptoCard

/-- THE SECOND FORM's CARD OF 'clockworklaw20.PredictIndependent'. -/
def predictIndependentUptoCard : Claim7 := { stood := { row := predictIndependentUptoRow, standIns := [], harness := (true, "474cb5a423e0992e9cd509678839adc672c3484cb860a29ef792bb5047885aab"), looks := true }, kinds := [], alts := [], laidByText := true, laidKinds := [.data, .data, .data], laidTests := true, laidLooks := .later }
def PredictIndependentUptoCardSaid : Prop := Claim7.holds Tryz.pinned (.plain (OpenSpec.upto predictIndependentSpec)) predictIndependentUptoCard
end Rows
end Go.Proofs.YtilhejdbiionhaaGreatDoor
