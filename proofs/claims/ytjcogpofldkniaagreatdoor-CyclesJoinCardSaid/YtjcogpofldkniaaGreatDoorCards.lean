/-
  DERIVED. GIVEN WITH THE SEED: THE CARDS: each row of YtjcogpofldkniaaGreatDoorRows.lean that lists a variable, with what it lists TIED to the program's text (the seventh form; the later family's looks); each row that meets fmt, with fmt's text TOLD by the authors' own Lean function (tested against real Go, not proved from fmt's source: count such statements apart). THE CARD IS WHAT COUNTS. Prove the row's statement (the work); the ties are given (YtjcogpofldkniaaGreatDoorTie.lean); close each card by the builder's one call (the guide's Derived/Test/ToyasCard.lean, 'card_holds'). Laid BY PROGRAM, IN A SANDBOX (cutbox-door.mjs). By AI agents, Wed Nov 11 2026. No macro, syntax, notation, axiom, sorry.
-/
import Derived.Test.YtjcogpofldkniaaGreatDoorRows
import GoSem.ClaimSeven
namespace Go.Proofs.YtjcogpofldkniaaGreatDoor
namespace Rows

/-- THE TIED CARD OF 'probecardlaw09.MemoriesPlain'. -/
def memoriesPlainCard : Claim7 := { stood := { row := memoriesPlainRow, standIns := [], harness := (true, "683a3730ca07997e76d9fb501fbd19038a6a1a7521ea0806cf9ae98ce09afe16"), looks := false }, kinds := [], alts := [], laidByText := true, laidKinds := [.data], laidTests := true, laidLooks := .later }
def MemoriesPlainCardSaid : Prop := Claim7.holds Tryz.pinned (.plain (OpenSpec.ofChange memoriesPlainSpec)) memoriesPlainCard

/-- THE TIED CARD OF 'probecardlaw10.CyclesShape'. -/
def cyclesShapeCard : Claim7 := { stood := { row := cyclesShapeRow, standIns := [], harness := (true, "683a3730ca07997e76d9fb501fbd19038a6a1a7521ea0806cf9ae98ce09afe16"), looks := false }, kinds := [], alts := [], laidByText := true, laidKinds := [.data, .data, .data, .data], laidTests := true, laidLooks := .later }
def CyclesShapeCardSaid : Prop := Claim7.holds Tryz.pinned (.plain (OpenSpec.ofChange cyclesShapeSpec)) cyclesShapeCard

/-- THE TIED CARD OF 'probecardlaw10.CyclesRun'. -/
def cyclesRunCard : Claim7 := { stood := { row := cyclesRunRow, standIns := [], harness := (true, "683a3730ca07997e76d9fb501fbd19038a6a1a7521ea0806cf9ae98ce09afe16"), looks := false }, kinds := [], alts := [], laidByText := true, laidKinds := [.data, .data, .data, .data], laidTests := true, laidLooks := .later }
def CyclesRunCardSaid : Prop := Claim7.holds Tryz.pinned (.plain (OpenSpec.ofChange cyclesRunSpec)) cyclesRunCard

/-- THE TIED CARD OF 'probecardlaw10.CyclesJoin'. -/
def cyclesJoinCard : Claim7 := { stood := { row := cyclesJoinRow, standIns := [], harness := (true, "683a3730ca07997e76d9fb501fbd19038a6a1a7521ea0806cf9ae98ce09afe16"), looks := false }, kinds := [], alts := [], laidByText := true, laidKinds := [.data, .data, .data, .data], laidTests := true, laidLooks := .later }
def CyclesJoinCardSaid : Prop := Claim7.holds Tryz.pinned (.plain (OpenSpec.ofChange cyclesJoinSpec)) cyclesJoinCard

/-- THE TIED CARD OF 'probecardlaw10.CyclesSettled'. -/
def cyclesSettledCard : Claim7 := { stood := { row := cyclesSettledRow, standIns := [], harness := (true, "683a3730ca07997e76d9fb501fbd19038a6a1a7521ea0806cf9ae98ce09afe16"), looks := false }, kinds := [], alts := [], laidByText := true, laidKinds := [.data, .data, .data, .data], laidTests := true, laidLooks := .later }
def CyclesSettledCardSaid : Prop := Claim7.holds Tryz.pinned (.plain (OpenSpec.ofChange cyclesSettledSpec)) cyclesSettledCard

/-- THE TIED CARD OF 'probecardlaw10.CyclesUnroll'. -/
def cyclesUnrollCard : Claim7 := { stood := { row := cyclesUnrollRow, standIns := [], harness := (true, "683a3730ca07997e76d9fb501fbd19038a6a1a7521ea0806cf9ae98ce09afe16"), looks := false }, kinds := [], alts := [], laidByText := true, laidKinds := [.data, .data, .data, .data], laidTests := true, laidLooks := .later }
def CyclesUnrollCardSaid : Prop := Claim7.holds Tryz.pinned (.plain (OpenSpec.ofChange cyclesUnrollSpec)) cyclesUnrollCard

/-- THE SECOND FORM's CARD OF 'probecardlaw09.MemoriesPlain'. -/
def memoriesPlainUptoCard : Claim7 := { stood := { row := memoriesPlainUptoRow, standIns := [], harness := (true, "683a3730ca07997e76d9fb501fbd19038a6a1a7521ea0806cf9ae98ce09afe16"), looks := false }, kinds := [], alts := [], laidByText := true, laidKinds := [.data], laidTests := true, laidLooks := .later }
def MemoriesPlainUptoCardSaid : Prop := Claim7.holds Tryz.pinned (.plain (OpenSpec.upto memoriesPlainSpec)) memoriesPlainUptoCard

/-- THE SECOND FORM's CARD OF 'probecardlaw10.CyclesShape'. -/
def cyclesShapeUptoCard : Claim7 := { stood := { row := cyclesShapeUptoRow, standIns := [], harness := (true, "683a3730ca07997e76d9fb501fbd19038a6a1a7521ea0806cf9ae98ce09afe16"), looks := false }, kinds := [], alts := [], laidByText := true, laidKinds := [.data, .data, .data, .data], laidTests := true, laidLooks := .later }
def CyclesShapeUptoCardSaid : Prop := Claim7.holds Tryz.pinned (.plain (OpenSpec.upto cyclesShapeSpec)) cyclesShapeUptoCard

/-- THE SECOND FORM's CARD OF 'probecardlaw10.CyclesRun'. -/
def cyclesRunUptoCard : Claim7 := { stood := { row := cyclesRunUptoRow, standIns := [], harness := (true, "683a3730ca07997e76d9fb501fbd19038a6a1a7521ea0806cf9ae98ce09afe16"), looks := false }, kinds := [], alts := [], laidByText := true, laidKinds := [.data, .data, .data, .data], laidTests := true, laidLooks := .later }
def CyclesRunUptoCardSaid : Prop := Claim7.holds Tryz.pinned (.plain (OpenSpec.upto cyclesRunSpec)) cyclesRunUptoCard

/-- THE SECOND FORM's CARD OF 'probecardlaw10.CyclesJoin'. -/
def cyclesJoinUptoCard : Claim7 := { stood := { row := cyclesJoinUptoRow, standIns := [], harness := (true, "683a3730ca07997e76d9fb501fbd19038a6a1a7521ea0806cf9ae98ce09afe16"), looks := false }, kinds := [], alts := [], laidByText := true, laidKinds := [.data, .data, .data, .data], laidTests := true, laidLooks := .later }
def CyclesJoinUptoCardSaid : Prop := Claim7.holds Tryz.pinned (.plain (OpenSpec.upto cyclesJoinSpec)) cyclesJoinUptoCard

/-- THE SECOND FORM's CARD OF 'probecardlaw10.CyclesSettled'. -/
def cyclesSettledUptoCard : Claim7 := { stood := { row := cyclesSettledUptoRow, standIns := [], harness := (true, "683a3730ca07997e76d9fb501fbd19038a6a1a7521ea0806cf9ae98ce09afe16"), looks := false }, kinds := [], alts := [], laidByText := true, laidKinds := [.data, .data, .data, .data], laidTests := true, laidLooks := .later }
def CyclesSettledUptoCardSaid : Prop := Claim7.holds Tryz.pinned (.plain (OpenSpec.upto cyclesSettledSpec)) cyclesSettledUptoCard

/-- THE SECOND FORM's CARD OF 'probecardlaw10.CyclesUnroll'. -/
def cyclesUnrollUptoCard : Claim7 := { stood := { row := cyclesUnrollUptoRow, standIns := [], harness := (true, "683a3730ca07997e76d9fb501fbd19038a6a1a7521ea0806cf9ae98ce09afe16"), looks := false }, kinds := [], alts := [], laidByText := true, laidKinds := [.data, .data, .data, .data], laidTests := true, laidLooks := .later }
def CyclesUnrollUptoCardSaid : Prop := Claim7.holds Tryz.pinned (.plain (OpenSpec.upto cyclesUnrollSpec)) cyclesUnrollUptoCard
end Rows
end Go.Proofs.YtjcogpofldkniaaGreatDoor
