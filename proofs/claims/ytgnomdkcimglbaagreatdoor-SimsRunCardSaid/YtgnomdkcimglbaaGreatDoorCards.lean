/-
  DERIVED. GIVEN WITH THE SEED: THE CARDS: each row of YtgnomdkcimglbaaGreatDoorRows.lean that lists a variable, with what it lists TIED to the program's text (the seventh form; the later family's looks); each row that meets fmt, with fmt's text TOLD by the authors' own Lean function (tested against real Go, not proved from fmt's source: count such statements apart). THE CARD IS WHAT COUNTS. Prove the row's statement (the work); the ties are given (YtgnomdkcimglbaaGreatDoorTie.lean); close each card by the builder's one call (the guide's Derived/Test/ToyasCard.lean, 'card_holds'). Laid BY PROGRAM, IN A SANDBOX (cutbox-door.mjs). By AI agents, Wed Nov 11 2026. No macro, syntax, notation, axiom, sorry.
-/
import Derived.Test.YtgnomdkcimglbaaGreatDoorRows
import GoSem.ClaimSeven
namespace Go.Proofs.YtgnomdkcimglbaaGreatDoor
namespace Rows

/-- THE TIED CARD OF 'probecardlaw06.SimsRun'. -/
def simsRunCard : Claim7 := { stood := { row := simsRunRow, standIns := [], harness := (true, "9037595d5213f4a7e073ccc6164e1492ab8c4d2b4826ba414488371e39b96a0a"), looks := false }, kinds := [], alts := [], laidByText := true, laidKinds := [.data], laidTests := true, laidLooks := .later }
def SimsRunCardSaid : Prop := Claim7.holds Tryz.pinned (.plain (OpenSpec.ofChange simsRunSpec)) simsRunCard

/-- THE TIED CARD OF 'probecardlaw36.LaunchesBefore'. -/
def launchesBeforeCard : Claim7 := { stood := { row := launchesBeforeRow, standIns := [], harness := (true, "9037595d5213f4a7e073ccc6164e1492ab8c4d2b4826ba414488371e39b96a0a"), looks := false }, kinds := [], alts := [], laidByText := true, laidKinds := [.data, .data, .data, .data], laidTests := true, laidLooks := .later }
def LaunchesBeforeCardSaid : Prop := Claim7.holds Tryz.pinned (.plain (OpenSpec.ofChange launchesBeforeSpec)) launchesBeforeCard

/-- THE TIED CARD OF 'probecardlaw34.ScansModes'. -/
def scansModesCard : Claim7 := { stood := { row := scansModesRow, standIns := [], harness := (true, "9037595d5213f4a7e073ccc6164e1492ab8c4d2b4826ba414488371e39b96a0a"), looks := false }, kinds := [], alts := [], laidByText := true, laidKinds := [.data, .data, .data, .data], laidTests := true, laidLooks := .later }
def ScansModesCardSaid : Prop := Claim7.holds Tryz.pinned (.plain (OpenSpec.ofChange scansModesSpec)) scansModesCard

/-- THE TIED CARD OF 'probecardlaw35.ShiftsPlay'. -/
def shiftsPlayCard : Claim7 := { stood := { row := shiftsPlayRow, standIns := [], harness := (true, "9037595d5213f4a7e073ccc6164e1492ab8c4d2b4826ba414488371e39b96a0a"), looks := false }, kinds := [], alts := [], laidByText := true, laidKinds := [.data, .data, .data, .data], laidTests := true, laidLooks := .later }
def ShiftsPlayCardSaid : Prop := Claim7.holds Tryz.pinned (.plain (OpenSpec.ofChange shiftsPlaySpec)) shiftsPlayCard

/-- THE TIED CARD OF 'probecardlaw35.ShiftsLoads'. -/
def shiftsLoadsCard : Claim7 := { stood := { row := shiftsLoadsRow, standIns := [], harness := (true, "9037595d5213f4a7e073ccc6164e1492ab8c4d2b4826ba414488371e39b96a0a"), looks := false }, kinds := [], alts := [], laidByText := true, laidKinds := [.data, .data, .data, .data], laidTests := true, laidLooks := .later }
def ShiftsLoadsCardSaid : Prop := Claim7.holds Tryz.pinned (.plain (OpenSpec.ofChange shiftsLoadsSpec)) shiftsLoadsCard

/-- THE TIED CARD OF 'probecardlaw35.ShiftsApply'. -/
def shiftsApplyCard : Claim7 := { stood := { row := shiftsApplyRow, standIns := [], harness := (true, "9037595d5213f4a7e073ccc6164e1492ab8c4d2b4826ba414488371e39b96a0a"), looks := false }, kinds := [], alts := [], laidByText := true, laidKinds := [.data, .data, .data, .data], laidTests := true, laidLooks := .later }
def ShiftsApplyCardSaid : Prop := Claim7.holds Tryz.pinned (.plain (OpenSpec.ofChange shiftsApplySpec)) shiftsApplyCard

/-- THE TIED CARD OF 'probecardlaw35.ShiftsErrors'. -/
def shiftsErrorsCard : Claim7 := { stood := { row := shiftsErrorsRow, standIns := [], harness := (true, "9037595d5213f4a7e073ccc6164e1492ab8c4d2b4826ba414488371e39b96a0a"), looks := false }, kinds := [], alts := [], laidByText := true, laidKinds := [.data, .data, .data, .data], laidTests := true, laidLooks := .later }
def ShiftsErrorsCardSaid : Prop := Claim7.holds Tryz.pinned (.plain (OpenSpec.ofChange shiftsErrorsSpec)) shiftsErrorsCard

/-- THE TIED CARD OF 'probecardlaw36.LaunchesTest'. -/
def launchesTestCard : Claim7 := { stood := { row := launchesTestRow, standIns := [], harness := (true, "9037595d5213f4a7e073ccc6164e1492ab8c4d2b4826ba414488371e39b96a0a"), looks := false }, kinds := [], alts := [], laidByText := true, laidKinds := [.data, .data, .data, .data], laidTests := true, laidLooks := .later }
def LaunchesTestCardSaid : Prop := Claim7.holds Tryz.pinned (.plain (OpenSpec.ofChange launchesTestSpec)) launchesTestCard

/-- THE TIED CARD OF 'probecardlaw36.LaunchesCapture'. -/
def launchesCaptureCard : Claim7 := { stood := { row := launchesCaptureRow, standIns := [], harness := (true, "9037595d5213f4a7e073ccc6164e1492ab8c4d2b4826ba414488371e39b96a0a"), looks := false }, kinds := [], alts := [], laidByText := true, laidKinds := [.data, .data, .data, .data], laidTests := true, laidLooks := .later }
def LaunchesCaptureCardSaid : Prop := Claim7.holds Tryz.pinned (.plain (OpenSpec.ofChange launchesCaptureSpec)) launchesCaptureCard

/-- THE TIED CARD OF 'probecardlaw36.LaunchesShift'. -/
def launchesShiftCard : Claim7 := { stood := { row := launchesShiftRow, standIns := [], harness := (true, "9037595d5213f4a7e073ccc6164e1492ab8c4d2b4826ba414488371e39b96a0a"), looks := false }, kinds := [], alts := [], laidByText := true, laidKinds := [.data, .data, .data, .data], laidTests := true, laidLooks := .later }
def LaunchesShiftCardSaid : Prop := Claim7.holds Tryz.pinned (.plain (OpenSpec.ofChange launchesShiftSpec)) launchesShiftCard

/-- THE SECOND FORM's CARD OF 'probecardlaw06.SimsRun'. -/
def simsRunUptoCard : Claim7 := { stood := { row := simsRunUptoRow, standIns := [], harness := (true, "9037595d5213f4a7e073ccc6164e1492ab8c4d2b4826ba414488371e39b96a0a"), looks := false }, kinds := [], alts := [], laidByText := true, laidKinds := [.data], laidTests := true, laidLooks := .later }
def SimsRunUptoCardSaid : Prop := Claim7.holds Tryz.pinned (.plain (OpenSpec.upto simsRunSpec)) simsRunUptoCard

/-- THE SECOND FORM's CARD OF 'probecardlaw36.LaunchesBefore'. -/
def launchesBeforeUptoCard : Claim7 := { stood := { row := launchesBeforeUptoRow, standIns := [], harness := (true, "9037595d5213f4a7e073ccc6164e1492ab8c4d2b4826ba414488371e39b96a0a"), looks := false }, kinds := [], alts := [], laidByText := true, laidKinds := [.data, .data, .data, .data], laidTests := true, laidLooks := .later }
def LaunchesBeforeUptoCardSaid : Prop := Claim7.holds Tryz.pinned (.plain (OpenSpec.upto launchesBeforeSpec)) launchesBeforeUptoCard

/-- THE SECOND FORM's CARD OF 'probecardlaw34.ScansModes'. -/
def scansModesUptoCard : Claim7 := { stood := { row := scansModesUptoRow, standIns := [], harness := (true, "9037595d5213f4a7e073ccc6164e1492ab8c4d2b4826ba414488371e39b96a0a"), looks := false }, kinds := [], alts := [], laidByText := true, laidKinds := [.data, .data, .data, .data], laidTests := true, laidLooks := .later }
def ScansModesUptoCardSaid : Prop := Claim7.holds Tryz.pinned (.plain (OpenSpec.upto scansModesSpec)) scansModesUptoCard

/-- THE SECOND FORM's CARD OF 'probecardlaw35.ShiftsPlay'. -/
def shiftsPlayUptoCard : Claim7 := { stood := { row := shiftsPlayUptoRow, standIns := [], harness := (true, "9037595d5213f4a7e073ccc6164e1492ab8c4d2b4826ba414488371e39b96a0a"), looks := false }, kinds := [], alts := [], laidByText := true, laidKinds := [.data, .data, .data, .data], laidTests := true, laidLooks := .later }
def ShiftsPlayUptoCardSaid : Prop := Claim7.holds Tryz.pinned (.plain (OpenSpec.upto shiftsPlaySpec)) shiftsPlayUptoCard

/-- THE SECOND FORM's CARD OF 'probecardlaw35.ShiftsLoads'. -/
def shiftsLoadsUptoCard : Claim7 := { stood := { row := shiftsLoadsUptoRow, standIns := [], harness := (true, "9037595d5213f4a7e073ccc6164e1492ab8c4d2b4826ba414488371e39b96a0a"), looks := false }, kinds := [], alts := [], laidByText := true, laidKinds := [.data, .data, .data, .data], laidTests := true, laidLooks := .later }
def ShiftsLoadsUptoCardSaid : Prop := Claim7.holds Tryz.pinned (.plain (OpenSpec.upto shiftsLoadsSpec)) shiftsLoadsUptoCard

/-- THE SECOND FORM's CARD OF 'probecardlaw35.ShiftsApply'. -/
def shiftsApplyUptoCard : Claim7 := { stood := { row := shiftsApplyUptoRow, standIns := [], harness := (true, "9037595d5213f4a7e073ccc6164e1492ab8c4d2b4826ba414488371e39b96a0a"), looks := false }, kinds := [], alts := [], laidByText := true, laidKinds := [.data, .data, .data, .data], laidTests := true, laidLooks := .later }
def ShiftsApplyUptoCardSaid : Prop := Claim7.holds Tryz.pinned (.plain (OpenSpec.upto shiftsApplySpec)) shiftsApplyUptoCard

/-- THE SECOND FORM's CARD OF 'probecardlaw35.ShiftsErrors'. -/
def shiftsErrorsUptoCard : Claim7 := { stood := { row := shiftsErrorsUptoRow, standIns := [], harness := (true, "9037595d5213f4a7e073ccc6164e1492ab8c4d2b4826ba414488371e39b96a0a"), looks := false }, kinds := [], alts := [], laidByText := true, laidKinds := [.data, .data, .data, .data], laidTests := true, laidLooks := .later }
def ShiftsErrorsUptoCardSaid : Prop := Claim7.holds Tryz.pinned (.plain (OpenSpec.upto shiftsErrorsSpec)) shiftsErrorsUptoCard

/-- THE SECOND FORM's CARD OF 'probecardlaw36.LaunchesTest'. -/
def launchesTestUptoCard : Claim7 := { stood := { row := launchesTestUptoRow, standIns := [], harness := (true, "9037595d5213f4a7e073ccc6164e1492ab8c4d2b4826ba414488371e39b96a0a"), looks := false }, kinds := [], alts := [], laidByText := true, laidKinds := [.data, .data, .data, .data], laidTests := true, laidLooks := .later }
def LaunchesTestUptoCardSaid : Prop := Claim7.holds Tryz.pinned (.plain (OpenSpec.upto launchesTestSpec)) launchesTestUptoCard

/-- THE SECOND FORM's CARD OF 'probecardlaw36.LaunchesCapture'. -/
def launchesCaptureUptoCard : Claim7 := { stood := { row := launchesCaptureUptoRow, standIns := [], harness := (true, "9037595d5213f4a7e073ccc6164e1492ab8c4d2b4826ba414488371e39b96a0a"), looks := false }, kinds := [], alts := [], laidByText := true, laidKinds := [.data, .data, .data, .data], laidTests := true, laidLooks := .later }
def LaunchesCaptureUptoCardSaid : Prop := Claim7.holds Tryz.pinned (.plain (OpenSpec.upto launchesCaptureSpec)) launchesCaptureUptoCard

/-- THE SECOND FORM's CARD OF 'probecardlaw36.LaunchesShift'. -/
def launchesShiftUptoCard : Claim7 := { stood := { row := launchesShiftUptoRow, standIns := [], harness := (true, "9037595d5213f4a7e073ccc6164e1492ab8c4d2b4826ba414488371e39b96a0a"), looks := false }, kinds := [], alts := [], laidByText := true, laidKinds := [.data, .data, .data, .data], laidTests := true, laidLooks := .later }
def LaunchesShiftUptoCardSaid : Prop := Claim7.holds Tryz.pinned (.plain (OpenSpec.upto launchesShiftSpec)) launchesShiftUptoCard
end Rows
end Go.Proofs.YtgnomdkcimglbaaGreatDoor
