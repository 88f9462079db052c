/-
  DERIVED. GIVEN WITH THE SEED: THE CARDS: each row of YtnhlpeiadcojmaaDoorRows.lean that lists a variable, with what it lists TIED to the program's text (the seventh form; the later family's looks); each row that meets fmt, with fmt's text TOLD by the authors' own Lean function (tested against real Go, not proved from fmt's source: count such statements apart). THE CARD IS WHAT COUNTS. Prove the row's statement (the work); the ties are given (YtnhlpeiadcojmaaDoorTie.lean); close each card by the builder's one call (the guide's Derived/Test/ToyasCard.lean, 'card_holds'). Laid BY PROGRAM, IN A SANDBOX (cutbox-door.mjs). By AI agents, Wed Nov 11 2026. No macro, syntax, notation, axiom, sorry.
-/
import Derived.Test.YtnhlpeiadcojmaaDoorRows
import GoSem.ClaimSeven
namespace Go.Proofs.YtnhlpeiadcojmaaDoor
namespace Rows

/-- THE TIED CARD OF 'probecardlaw28.CnfsSolves'. -/
def cnfsSolvesCard : Claim7 := { stood := { row := cnfsSolvesRow, standIns := [], harness := (true, "2493a9463f7bd7a2c1c4a9dadaba329402e60b574da325bb8bbeb2057c093fd6"), looks := false }, kinds := [], alts := [], laidByText := true, laidKinds := [.data, .data, .data, .data], laidTests := true, laidLooks := .later }
def CnfsSolvesCardSaid : Prop := Claim7.holds Tryd.pinned (.plain (OpenSpec.ofChange cnfsSolvesSpec)) cnfsSolvesCard

/-- THE TIED CARD OF 'probecardlaw28.CnfsErrors'. -/
def cnfsErrorsCard : Claim7 := { stood := { row := cnfsErrorsRow, standIns := [], harness := (true, "2493a9463f7bd7a2c1c4a9dadaba329402e60b574da325bb8bbeb2057c093fd6"), looks := false }, kinds := [], alts := [], laidByText := true, laidKinds := [.data, .data, .data, .data], laidTests := true, laidLooks := .later }
def CnfsErrorsCardSaid : Prop := Claim7.holds Tryd.pinned (.plain (OpenSpec.ofChange cnfsErrorsSpec)) cnfsErrorsCard

/-- THE SECOND FORM's CARD OF 'probecardlaw28.CnfsSolves'. -/
def cnfsSolvesUptoCard : Claim7 := { stood := { row := cnfsSolvesUptoRow, standIns := [], harness := (true, "2493a9463f7bd7a2c1c4a9dadaba329402e60b574da325bb8bbeb2057c093fd6"), looks := false }, kinds := [], alts := [], laidByText := true, laidKinds := [.data, .data, .data, .data], laidTests := true, laidLooks := .later }
def CnfsSolvesUptoCardSaid : Prop := Claim7.holds Tryd.pinned (.plain (OpenSpec.upto cnfsSolvesSpec)) cnfsSolvesUptoCard

/-- THE SECOND FORM's CARD OF 'probecardlaw28.CnfsErrors'. -/
def cnfsErrorsUptoCard : Claim7 := { stood := { row := cnfsErrorsUptoRow, standIns := [], harness := (true, "2493a9463f7bd7a2c1c4a9dadaba329402e60b574da325bb8bbeb2057c093fd6"), looks := false }, kinds := [], alts := [], laidByText := true, laidKinds := [.data, .data, .data, .data], laidTests := true, laidLooks := .later }
def CnfsErrorsUptoCardSaid : Prop := Claim7.holds Tryd.pinned (.plain (OpenSpec.upto cnfsErrorsSpec)) cnfsErrorsUptoCard
end Rows
end Go.Proofs.YtnhlpeiadcojmaaDoor
