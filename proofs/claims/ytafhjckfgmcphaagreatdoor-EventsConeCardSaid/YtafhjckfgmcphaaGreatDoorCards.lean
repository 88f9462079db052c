/-
  DERIVED. GIVEN WITH THE SEED: THE CARDS: each row of YtafhjckfgmcphaaGreatDoorRows.lean that lists a variable, with what it lists TIED to the program's text (the seventh form; the later family's looks); each row that meets fmt, with fmt's text TOLD by the authors' own Lean function (tested against real Go, not proved from fmt's source: count such statements apart). THE CARD IS WHAT COUNTS. Prove the row's statement (the work); the ties are given (YtafhjckfgmcphaaGreatDoorTie.lean); close each card by the builder's one call (the guide's Derived/Test/ToyasCard.lean, 'card_holds'). Laid BY PROGRAM, IN A SANDBOX (cutbox-door.mjs). By AI agents, Wed Nov 11 2026. No macro, syntax, notation, axiom, sorry.
-/
import Derived.Test.YtafhjckfgmcphaaGreatDoorRows
import GoSem.ClaimSeven
namespace Go.Proofs.YtafhjckfgmcphaaGreatDoor
namespace Rows

/-- THE TIED CARD OF 'probecardlaw08.EventsEvals'. -/
def eventsEvalsCard : Claim7 := { stood := { row := eventsEvalsRow, standIns := [], harness := (true, "8f6020bacfe995483f047548d0c18e0ac0ca43952122e9b456c018dce62ffed2"), looks := false }, kinds := [], alts := [], laidByText := true, laidKinds := [.data], laidTests := true, laidLooks := .later }
def EventsEvalsCardSaid : Prop := Claim7.holds Tryz.pinned (.plain (OpenSpec.ofChange eventsEvalsSpec)) eventsEvalsCard

/-- THE TIED CARD OF 'probecardlaw08.EventsHistory'. -/
def eventsHistoryCard : Claim7 := { stood := { row := eventsHistoryRow, standIns := [], harness := (true, "8f6020bacfe995483f047548d0c18e0ac0ca43952122e9b456c018dce62ffed2"), looks := false }, kinds := [], alts := [], laidByText := true, laidKinds := [.data], laidTests := true, laidLooks := .later }
def EventsHistoryCardSaid : Prop := Claim7.holds Tryz.pinned (.plain (OpenSpec.ofChange eventsHistorySpec)) eventsHistoryCard

/-- THE TIED CARD OF 'probecardlaw08.EventsApply'. -/
def eventsApplyCard : Claim7 := { stood := { row := eventsApplyRow, standIns := [], harness := (true, "8f6020bacfe995483f047548d0c18e0ac0ca43952122e9b456c018dce62ffed2"), looks := false }, kinds := [], alts := [], laidByText := true, laidKinds := [.data], laidTests := true, laidLooks := .later }
def EventsApplyCardSaid : Prop := Claim7.holds Tryz.pinned (.plain (OpenSpec.ofChange eventsApplySpec)) eventsApplyCard

/-- THE TIED CARD OF 'probecardlaw08.EventsOwn'. -/
def eventsOwnCard : Claim7 := { stood := { row := eventsOwnRow, standIns := [], harness := (true, "8f6020bacfe995483f047548d0c18e0ac0ca43952122e9b456c018dce62ffed2"), looks := false }, kinds := [], alts := [], laidByText := true, laidKinds := [.data], laidTests := true, laidLooks := .later }
def EventsOwnCardSaid : Prop := Claim7.holds Tryz.pinned (.plain (OpenSpec.ofChange eventsOwnSpec)) eventsOwnCard

/-- THE TIED CARD OF 'probecardlaw10.CyclesRun'. -/
def cyclesRunCard : Claim7 := { stood := { row := cyclesRunRow, standIns := [], harness := (true, "8f6020bacfe995483f047548d0c18e0ac0ca43952122e9b456c018dce62ffed2"), looks := false }, kinds := [], alts := [], laidByText := true, laidKinds := [.data, .data, .data, .data], laidTests := true, laidLooks := .later }
def CyclesRunCardSaid : Prop := Claim7.holds Tryz.pinned (.plain (OpenSpec.ofChange cyclesRunSpec)) cyclesRunCard

/-- THE TIED CARD OF 'probecardlaw08.EventsCone'. -/
def eventsConeCard : Claim7 := { stood := { row := eventsConeRow, standIns := [], harness := (true, "8f6020bacfe995483f047548d0c18e0ac0ca43952122e9b456c018dce62ffed2"), looks := false }, kinds := [], alts := [], laidByText := true, laidKinds := [.data], laidTests := true, laidLooks := .later }
def EventsConeCardSaid : Prop := Claim7.holds Tryz.pinned (.plain (OpenSpec.ofChange eventsConeSpec)) eventsConeCard

/-- THE TIED CARD OF 'probecardlaw10.CyclesUnroll'. -/
def cyclesUnrollCard : Claim7 := { stood := { row := cyclesUnrollRow, standIns := [], harness := (true, "8f6020bacfe995483f047548d0c18e0ac0ca43952122e9b456c018dce62ffed2"), looks := false }, kinds := [], alts := [], laidByText := true, laidKinds := [.data, .data, .data, .data], laidTests := true, laidLooks := .later }
def CyclesUnrollCardSaid : Prop := Claim7.holds Tryz.pinned (.plain (OpenSpec.ofChange cyclesUnrollSpec)) cyclesUnrollCard

/-- THE SECOND FORM's CARD OF 'probecardlaw08.EventsEvals'. -/
def eventsEvalsUptoCard : Claim7 := { stood := { row := eventsEvalsUptoRow, standIns := [], harness := (true, "8f6020bacfe995483f047548d0c18e0ac0ca43952122e9b456c018dce62ffed2"), looks := false }, kinds := [], alts := [], laidByText := true, laidKinds := [.data], laidTests := true, laidLooks := .later }
def EventsEvalsUptoCardSaid : Prop := Claim7.holds Tryz.pinned (.plain (OpenSpec.upto eventsEvalsSpec)) eventsEvalsUptoCard

/-- THE SECOND FORM's CARD OF 'probecardlaw08.EventsHistory'. -/
def eventsHistoryUptoCard : Claim7 := { stood := { row := eventsHistoryUptoRow, standIns := [], harness := (true, "8f6020bacfe995483f047548d0c18e0ac0ca43952122e9b456c018dce62ffed2"), looks := false }, kinds := [], alts := [], laidByText := true, laidKinds := [.data], laidTests := true, laidLooks := .later }
def EventsHistoryUptoCardSaid : Prop := Claim7.holds Tryz.pinned (.plain (OpenSpec.upto eventsHistorySpec)) eventsHistoryUptoCard

/-- THE SECOND FORM's CARD OF 'probecardlaw08.EventsApply'. -/
def eventsApplyUptoCard : Claim7 := { stood := { row := eventsApplyUptoRow, standIns := [], harness := (true, "8f6020bacfe995483f047548d0c18e0ac0ca43952122e9b456c018dce62ffed2"), looks := false }, kinds := [], alts := [], laidByText := true, laidKinds := [.data], laidTests := true, laidLooks := .later }
def EventsApplyUptoCardSaid : Prop := Claim7.holds Tryz.pinned (.plain (OpenSpec.upto eventsApplySpec)) eventsApplyUptoCard

/-- THE SECOND FORM's CARD OF 'probecardlaw08.EventsOwn'. -/
def eventsOwnUptoCard : Claim7 := { stood := { row := eventsOwnUptoRow, standIns := [], harness := (true, "8f6020bacfe995483f047548d0c18e0ac0ca43952122e9b456c018dce62ffed2"), looks := false }, kinds := [], alts := [], laidByText := true, laidKinds := [.data], laidTests := true, laidLooks := .later }
def EventsOwnUptoCardSaid : Prop := Claim7.holds Tryz.pinned (.plain (OpenSpec.upto eventsOwnSpec)) eventsOwnUptoCard

/-- THE SECOND FORM's CARD OF 'probecardlaw10.CyclesRun'. -/
def cyclesRunUptoCard : Claim7 := { stood := { row := cyclesRunUptoRow, standIns := [], harness := (true, "8f6020bacfe995483f047548d0c18e0ac0ca43952122e9b456c018dce62ffed2"), looks := false }, kinds := [], alts := [], laidByText := true, laidKinds := [.data, .data, .data, .data], laidTests := true, laidLooks := .later }
def CyclesRunUptoCardSaid : Prop := Claim7.holds Tryz.pinned (.plain (OpenSpec.upto cyclesRunSpec)) cyclesRunUptoCard

/-- THE SECOND FORM's CARD OF 'probecardlaw08.EventsCone'. -/
def eventsConeUptoCard : Claim7 := { stood := { row := eventsConeUptoRow, standIns := [], harness := (true, "8f6020bacfe995483f047548d0c18e0ac0ca43952122e9b456c018dce62ffed2"), looks := false }, kinds := [], alts := [], laidByText := true, laidKinds := [.data], laidTests := true, laidLooks := .later }
def EventsConeUptoCardSaid : Prop := Claim7.holds Tryz.pinned (.plain (OpenSpec.upto eventsConeSpec)) eventsConeUptoCard

/-- THE SECOND FORM's CARD OF 'probecardlaw10.CyclesUnroll'. -/
def cyclesUnrollUptoCard : Claim7 := { stood := { row := cyclesUnrollUptoRow, standIns := [], harness := (true, "8f6020bacfe995483f047548d0c18e0ac0ca43952122e9b456c018dce62ffed2"), looks := false }, kinds := [], alts := [], laidByText := true, laidKinds := [.data, .data, .data, .data], laidTests := true, laidLooks := .later }
def CyclesUnrollUptoCardSaid : Prop := Claim7.holds Tryz.pinned (.plain (OpenSpec.upto cyclesUnrollSpec)) cyclesUnrollUptoCard
end Rows
end Go.Proofs.YtafhjckfgmcphaaGreatDoor
