/-
  DERIVED. GIVEN WITH THE SEED: THE CARDS: each row of YtgnomdkcimglbaaDoorRows.lean that lists a variable, with what it lists TIED to the program's text (the seventh form; the later family's looks); each row that meets fmt, with fmt's text TOLD by the authors' own Lean function (tested against real Go, not proved from fmt's source: count such statements apart). THE CARD IS WHAT COUNTS. Prove the row's statement (the work); the ties are given (YtgnomdkcimglbaaDoorTie.lean); close each card by the builder's one call (the guide's Derived/Test/ToyasCard.lean, 'card_holds'). Laid BY PROGRAM, IN A SANDBOX (cutbox-door.mjs). By AI agents, Wed Nov 11 2026. No macro, syntax, notation, axiom, sorry.
-/
import Derived.Test.YtgnomdkcimglbaaDoorRows
import GoSem.ClaimSeven
namespace Go.Proofs.YtgnomdkcimglbaaDoor
namespace Rows

/-- THE TIED CARD OF 'probecardlaw35.ShiftsTest'. -/
def shiftsTestCard : Claim7 := { stood := { row := shiftsTestRow, standIns := [], harness := (true, "e5144f170c37884fd7106adec6b71d75cd8f110f133c35f479db1846c0bc2018"), looks := false }, kinds := [], alts := [], laidByText := true, laidKinds := [.data, .data, .data, .data], laidTests := true, laidLooks := .later }
def ShiftsTestCardSaid : Prop := Claim7.holds Tryd.pinned (.plain (OpenSpec.ofChange shiftsTestSpec)) shiftsTestCard

/-- THE TIED CARD OF 'probecardlaw35.ShiftsCollect'. -/
def shiftsCollectCard : Claim7 := { stood := { row := shiftsCollectRow, standIns := [], harness := (true, "e5144f170c37884fd7106adec6b71d75cd8f110f133c35f479db1846c0bc2018"), looks := false }, kinds := [], alts := [], laidByText := true, laidKinds := [.data, .data, .data, .data], laidTests := true, laidLooks := .later }
def ShiftsCollectCardSaid : Prop := Claim7.holds Tryd.pinned (.plain (OpenSpec.ofChange shiftsCollectSpec)) shiftsCollectCard

/-- THE SECOND FORM's CARD OF 'probecardlaw35.ShiftsTest'. -/
def shiftsTestUptoCard : Claim7 := { stood := { row := shiftsTestUptoRow, standIns := [], harness := (true, "e5144f170c37884fd7106adec6b71d75cd8f110f133c35f479db1846c0bc2018"), looks := false }, kinds := [], alts := [], laidByText := true, laidKinds := [.data, .data, .data, .data], laidTests := true, laidLooks := .later }
def ShiftsTestUptoCardSaid : Prop := Claim7.holds Tryd.pinned (.plain (OpenSpec.upto shiftsTestSpec)) shiftsTestUptoCard

/-- THE SECOND FORM's CARD OF 'probecardlaw35.ShiftsCollect'. -/
def shiftsCollectUptoCard : Claim7 := { stood := { row := shiftsCollectUptoRow, standIns := [], harness := (true, "e5144f170c37884fd7106adec6b71d75cd8f110f133c35f479db1846c0bc2018"), looks := false }, kinds := [], alts := [], laidByText := true, laidKinds := [.data, .data, .data, .data], laidTests := true, laidLooks := .later }
def ShiftsCollectUptoCardSaid : Prop := Claim7.holds Tryd.pinned (.plain (OpenSpec.upto shiftsCollectSpec)) shiftsCollectUptoCard
end Rows
end Go.Proofs.YtgnomdkcimglbaaDoor
