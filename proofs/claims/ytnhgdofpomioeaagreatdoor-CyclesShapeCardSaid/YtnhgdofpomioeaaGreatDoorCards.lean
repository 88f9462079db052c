/-
  DERIVED. GIVEN WITH THE SEED: THE CARDS: each row of YtnhgdofpomioeaaGreatDoorRows.lean that lists a variable, with what it lists TIED to the program's text (the seventh form; the later family's looks); each row that meets fmt, with fmt's text TOLD by the authors' own Lean function (tested against real Go, not proved from fmt's source: count such statements apart). THE CARD IS WHAT COUNTS. Prove the row's statement (the work); the ties are given (YtnhgdofpomioeaaGreatDoorTie.lean); close each card by the builder's one call (the guide's Derived/Test/ToyasCard.lean, 'card_holds'). Laid BY PROGRAM, IN A SANDBOX (cutbox-door.mjs). By AI agents, Wed Nov 11 2026. No macro, syntax, notation, axiom, sorry.
-/
import Derived.Test.YtnhgdofpomioeaaGreatDoorRows
import GoSem.ClaimSeven
namespace Go.Proofs.YtnhgdofpomioeaaGreatDoor
namespace Rows

/-- THE TIED CARD OF 'probecardlaw10.CyclesShape'. -/
def cyclesShapeCard : Claim7 := { stood := { row := cyclesShapeRow, standIns := [], harness := (true, "c8bfc1bae2dac7bfe6cec1097ea65255b0447038c1e59337c550ed8f1b8951da"), looks := false }, kinds := [], alts := [], laidByText := true, laidKinds := [.data, .data, .data, .data], laidTests := true, laidLooks := .later }
def CyclesShapeCardSaid : Prop := Claim7.holds Tryz.pinned (.plain (OpenSpec.ofChange cyclesShapeSpec)) cyclesShapeCard

/-- THE TIED CARD OF 'probecardlaw10.CyclesRun'. -/
def cyclesRunCard : Claim7 := { stood := { row := cyclesRunRow, standIns := [], harness := (true, "c8bfc1bae2dac7bfe6cec1097ea65255b0447038c1e59337c550ed8f1b8951da"), looks := false }, kinds := [], alts := [], laidByText := true, laidKinds := [.data, .data, .data, .data], laidTests := true, laidLooks := .later }
def CyclesRunCardSaid : Prop := Claim7.holds Tryz.pinned (.plain (OpenSpec.ofChange cyclesRunSpec)) cyclesRunCard

/-- THE TIED CARD OF 'probecardlaw10.CyclesSettled'. -/
def cyclesSettledCard : Claim7 := { stood := { row := cyclesSettledRow, standIns := [], harness := (true, "c8bfc1bae2dac7bfe6cec1097ea65255b0447038c1e59337c550ed8f1b8951da"), looks := false }, kinds := [], alts := [], laidByText := true, laidKinds := [.data, .data, .data, .data], laidTests := true, laidLooks := .later }
def CyclesSettledCardSaid : Prop := Claim7.holds Tryz.pinned (.plain (OpenSpec.ofChange cyclesSettledSpec)) cyclesSettledCard

/-- THE TIED CARD OF 'probecardlaw10.CyclesUnroll'. -/
def cyclesUnrollCard : Claim7 := { stood := { row := cyclesUnrollRow, standIns := [], harness := (true, "c8bfc1bae2dac7bfe6cec1097ea65255b0447038c1e59337c550ed8f1b8951da"), looks := false }, kinds := [], alts := [], laidByText := true, laidKinds := [.data, .data, .data, .data], laidTests := true, laidLooks := .later }
def CyclesUnrollCardSaid : Prop := Claim7.holds Tryz.pinned (.plain (OpenSpec.ofChange cyclesUnrollSpec)) cyclesUnrollCard

/-- THE TIED CARD OF 'probecardlaw11.RewritesSame'. -/
def rewritesSameCard : Claim7 := { stood := { row := rewritesSameRow, standIns := [], harness := (true, "c8bfc1bae2dac7bfe6cec1097ea65255b0447038c1e59337c550ed8f1b8951da"), looks := false }, kinds := [], alts := [], laidByText := true, laidKinds := [.data, .data, .data, .data], laidTests := true, laidLooks := .later }
def RewritesSameCardSaid : Prop := Claim7.holds Tryz.pinned (.plain (OpenSpec.ofChange rewritesSameSpec)) rewritesSameCard

/-- THE TIED CARD OF 'probecardlaw11.RewritesConstants'. -/
def rewritesConstantsCard : Claim7 := { stood := { row := rewritesConstantsRow, standIns := [], harness := (true, "c8bfc1bae2dac7bfe6cec1097ea65255b0447038c1e59337c550ed8f1b8951da"), looks := false }, kinds := [], alts := [], laidByText := true, laidKinds := [.data, .data, .data, .data], laidTests := true, laidLooks := .later }
def RewritesConstantsCardSaid : Prop := Claim7.holds Tryz.pinned (.plain (OpenSpec.ofChange rewritesConstantsSpec)) rewritesConstantsCard

/-- THE TIED CARD OF 'probecardlaw11.RewritesBuffers'. -/
def rewritesBuffersCard : Claim7 := { stood := { row := rewritesBuffersRow, standIns := [], harness := (true, "c8bfc1bae2dac7bfe6cec1097ea65255b0447038c1e59337c550ed8f1b8951da"), looks := false }, kinds := [], alts := [], laidByText := true, laidKinds := [.data, .data, .data, .data], laidTests := true, laidLooks := .later }
def RewritesBuffersCardSaid : Prop := Claim7.holds Tryz.pinned (.plain (OpenSpec.ofChange rewritesBuffersSpec)) rewritesBuffersCard

/-- THE TIED CARD OF 'probecardlaw11.RewritesMerge'. -/
def rewritesMergeCard : Claim7 := { stood := { row := rewritesMergeRow, standIns := [], harness := (true, "c8bfc1bae2dac7bfe6cec1097ea65255b0447038c1e59337c550ed8f1b8951da"), looks := false }, kinds := [], alts := [], laidByText := true, laidKinds := [.data, .data, .data, .data], laidTests := true, laidLooks := .later }
def RewritesMergeCardSaid : Prop := Claim7.holds Tryz.pinned (.plain (OpenSpec.ofChange rewritesMergeSpec)) rewritesMergeCard

/-- THE TIED CARD OF 'probecardlaw11.RewritesSweep'. -/
def rewritesSweepCard : Claim7 := { stood := { row := rewritesSweepRow, standIns := [], harness := (true, "c8bfc1bae2dac7bfe6cec1097ea65255b0447038c1e59337c550ed8f1b8951da"), looks := false }, kinds := [], alts := [], laidByText := true, laidKinds := [.data, .data, .data, .data], laidTests := true, laidLooks := .later }
def RewritesSweepCardSaid : Prop := Claim7.holds Tryz.pinned (.plain (OpenSpec.ofChange rewritesSweepSpec)) rewritesSweepCard

/-- THE TIED CARD OF 'probecardlaw11.RewritesSimplify'. -/
def rewritesSimplifyCard : Claim7 := { stood := { row := rewritesSimplifyRow, standIns := [], harness := (true, "c8bfc1bae2dac7bfe6cec1097ea65255b0447038c1e59337c550ed8f1b8951da"), looks := false }, kinds := [], alts := [], laidByText := true, laidKinds := [.data, .data, .data, .data], laidTests := true, laidLooks := .later }
def RewritesSimplifyCardSaid : Prop := Claim7.holds Tryz.pinned (.plain (OpenSpec.ofChange rewritesSimplifySpec)) rewritesSimplifyCard

/-- THE TIED CARD OF 'probecardlaw11.RewritesEqual'. -/
def rewritesEqualCard : Claim7 := { stood := { row := rewritesEqualRow, standIns := [], harness := (true, "c8bfc1bae2dac7bfe6cec1097ea65255b0447038c1e59337c550ed8f1b8951da"), looks := false }, kinds := [], alts := [], laidByText := true, laidKinds := [.data, .data, .data, .data], laidTests := true, laidLooks := .later }
def RewritesEqualCardSaid : Prop := Claim7.holds Tryz.pinned (.plain (OpenSpec.ofChange rewritesEqualSpec)) rewritesEqualCard

/-- THE TIED CARD OF 'probecardlaw11.RewritesErrors'. -/
def rewritesErrorsCard : Claim7 := { stood := { row := rewritesErrorsRow, standIns := [], harness := (true, "c8bfc1bae2dac7bfe6cec1097ea65255b0447038c1e59337c550ed8f1b8951da"), looks := false }, kinds := [], alts := [], laidByText := true, laidKinds := [.data, .data, .data, .data], laidTests := true, laidLooks := .later }
def RewritesErrorsCardSaid : Prop := Claim7.holds Tryz.pinned (.plain (OpenSpec.ofChange rewritesErrorsSpec)) rewritesErrorsCard

/-- THE TIED CARD OF 'probecardlaw11.RewritesMemories'. -/
def rewritesMemoriesCard : Claim7 := { stood := { row := rewritesMemoriesRow, standIns := [], harness := (true, "c8bfc1bae2dac7bfe6cec1097ea65255b0447038c1e59337c550ed8f1b8951da"), looks := false }, kinds := [], alts := [], laidByText := true, laidKinds := [.data, .data, .data, .data], laidTests := true, laidLooks := .later }
def RewritesMemoriesCardSaid : Prop := Claim7.holds Tryz.pinned (.plain (OpenSpec.ofChange rewritesMemoriesSpec)) rewritesMemoriesCard

/-- THE SECOND FORM's CARD OF 'probecardlaw10.CyclesShape'. -/
def cyclesShapeUptoCard : Claim7 := { stood := { row := cyclesShapeUptoRow, standIns := [], harness := (true, "c8bfc1bae2dac7bfe6cec1097ea65255b0447038c1e59337c550ed8f1b8951da"), looks := false }, kinds := [], alts := [], laidByText := true, laidKinds := [.data, .data, .data, .data], laidTests := true, laidLooks := .later }
def CyclesShapeUptoCardSaid : Prop := Claim7.holds Tryz.pinned (.plain (OpenSpec.upto cyclesShapeSpec)) cyclesShapeUptoCard

/-- THE SECOND FORM's CARD OF 'probecardlaw10.CyclesRun'. -/
def cyclesRunUptoCard : Claim7 := { stood := { row := cyclesRunUptoRow, standIns := [], harness := (true, "c8bfc1bae2dac7bfe6cec1097ea65255b0447038c1e59337c550ed8f1b8951da"), looks := false }, kinds := [], alts := [], laidByText := true, laidKinds := [.data, .data, .data, .data], laidTests := true, laidLooks := .later }
def CyclesRunUptoCardSaid : Prop := Claim7.holds Tryz.pinned (.plain (OpenSpec.upto cyclesRunSpec)) cyclesRunUptoCard

/-- THE SECOND FORM's CARD OF 'probecardlaw10.CyclesSettled'. -/
def cyclesSettledUptoCard : Claim7 := { stood := { row := cyclesSettledUptoRow, standIns := [], harness := (true, "c8bfc1bae2dac7bfe6cec1097ea65255b0447038c1e59337c550ed8f1b8951da"), looks := false }, kinds := [], alts := [], laidByText := true, laidKinds := [.data, .data, .data, .data], laidTests := true, laidLooks := .later }
def CyclesSettledUptoCardSaid : Prop := Claim7.holds Tryz.pinned (.plain (OpenSpec.upto cyclesSettledSpec)) cyclesSettledUptoCard

/-- THE SECOND FORM's CARD OF 'probecardlaw10.CyclesUnroll'. -/
def cyclesUnrollUptoCard : Claim7 := { stood := { row := cyclesUnrollUptoRow, standIns := [], harness := (true, "c8bfc1bae2dac7bfe6cec1097ea65255b0447038c1e59337c550ed8f1b8951da"), looks := false }, kinds := [], alts := [], laidByText := true, laidKinds := [.data, .data, .data, .data], laidTests := true, laidLooks := .later }
def CyclesUnrollUptoCardSaid : Prop := Claim7.holds Tryz.pinned (.plain (OpenSpec.upto cyclesUnrollSpec)) cyclesUnrollUptoCard

/-- THE SECOND FORM's CARD OF 'probecardlaw11.RewritesSame'. -/
def rewritesSameUptoCard : Claim7 := { stood := { row := rewritesSameUptoRow, standIns := [], harness := (true, "c8bfc1bae2dac7bfe6cec1097ea65255b0447038c1e59337c550ed8f1b8951da"), looks := false }, kinds := [], alts := [], laidByText := true, laidKinds := [.data, .data, .data, .data], laidTests := true, laidLooks := .later }
def RewritesSameUptoCardSaid : Prop := Claim7.holds Tryz.pinned (.plain (OpenSpec.upto rewritesSameSpec)) rewritesSameUptoCard

/-- THE SECOND FORM's CARD OF 'probecardlaw11.RewritesConstants'. -/
def rewritesConstantsUptoCard : Claim7 := { stood := { row := rewritesConstantsUptoRow, standIns := [], harness := (true, "c8bfc1bae2dac7bfe6cec1097ea65255b0447038c1e59337c550ed8f1b8951da"), looks := false }, kinds := [], alts := [], laidByText := true, laidKinds := [.data, .data, .data, .data], laidTests := true, laidLooks := .later }
def RewritesConstantsUptoCardSaid : Prop := Claim7.holds Tryz.pinned (.plain (OpenSpec.upto rewritesConstantsSpec)) rewritesConstantsUptoCard

/-- THE SECOND FORM's CARD OF 'probecardlaw11.RewritesBuffers'. -/
def rewritesBuffersUptoCard : Claim7 := { stood := { row := rewritesBuffersUptoRow, standIns := [], harness := (true, "c8bfc1bae2dac7bfe6cec1097ea65255b0447038c1e59337c550ed8f1b8951da"), looks := false }, kinds := [], alts := [], laidByText := true, laidKinds := [.data, .data, .data, .data], laidTests := true, laidLooks := .later }
def RewritesBuffersUptoCardSaid : Prop := Claim7.holds Tryz.pinned (.plain (OpenSpec.upto rewritesBuffersSpec)) rewritesBuffersUptoCard

/-- THE SECOND FORM's CARD OF 'probecardlaw11.RewritesMerge'. -/
def rewritesMergeUptoCard : Claim7 := { stood := { row := rewritesMergeUptoRow, standIns := [], harness := (true, "c8bfc1bae2dac7bfe6cec1097ea65255b0447038c1e59337c550ed8f1b8951da"), looks := false }, kinds := [], alts := [], laidByText := true, laidKinds := [.data, .data, .data, .data], laidTests := true, laidLooks := .later }
def RewritesMergeUptoCardSaid : Prop := Claim7.holds Tryz.pinned (.plain (OpenSpec.upto rewritesMergeSpec)) rewritesMergeUptoCard

/-- THE SECOND FORM's CARD OF 'probecardlaw11.RewritesSweep'. -/
def rewritesSweepUptoCard : Claim7 := { stood := { row := rewritesSweepUptoRow, standIns := [], harness := (true, "c8bfc1bae2dac7bfe6cec1097ea65255b0447038c1e59337c550ed8f1b8951da"), looks := false }, kinds := [], alts := [], laidByText := true, laidKinds := [.data, .data, .data, .data], laidTests := true, laidLooks := .later }
def RewritesSweepUptoCardSaid : Prop := Claim7.holds Tryz.pinned (.plain (OpenSpec.upto rewritesSweepSpec)) rewritesSweepUptoCard

/-- THE SECOND FORM's CARD OF 'probecardlaw11.RewritesSimplify'. -/
def rewritesSimplifyUptoCard : Claim7 := { stood := { row := rewritesSimplifyUptoRow, standIns := [], harness := (true, "c8bfc1bae2dac7bfe6cec1097ea65255b0447038c1e59337c550ed8f1b8951da"), looks := false }, kinds := [], alts := [], laidByText := true, laidKinds := [.data, .data, .data, .data], laidTests := true, laidLooks := .later }
def RewritesSimplifyUptoCardSaid : Prop := Claim7.holds Tryz.pinned (.plain (OpenSpec.upto rewritesSimplifySpec)) rewritesSimplifyUptoCard

/-- THE SECOND FORM's CARD OF 'probecardlaw11.RewritesEqual'. -/
def rewritesEqualUptoCard : Claim7 := { stood := { row := rewritesEqualUptoRow, standIns := [], harness := (true, "c8bfc1bae2dac7bfe6cec1097ea65255b0447038c1e59337c550ed8f1b8951da"), looks := false }, kinds := [], alts := [], laidByText := true, laidKinds := [.data, .data, .data, .data], laidTests := true, laidLooks := .later }
def RewritesEqualUptoCardSaid : Prop := Claim7.holds Tryz.pinned (.plain (OpenSpec.upto rewritesEqualSpec)) rewritesEqualUptoCard

/-- THE SECOND FORM's CARD OF 'probecardlaw11.RewritesErrors'. -/
def rewritesErrorsUptoCard : Claim7 := { stood := { row := rewritesErrorsUptoRow, standIns := [], harness := (true, "c8bfc1bae2dac7bfe6cec1097ea65255b0447038c1e59337c550ed8f1b8951da"), looks := false }, kinds := [], alts := [], laidByText := true, laidKinds := [.data, .data, .data, .data], laidTests := true, laidLooks := .later }
def RewritesErrorsUptoCardSaid : Prop := Claim7.holds Tryz.pinned (.plain (OpenSpec.upto rewritesErrorsSpec)) rewritesErrorsUptoCard

/-- THE SECOND FORM's CARD OF 'probecardlaw11.RewritesMemories'. -/
def rewritesMemoriesUptoCard : Claim7 := { stood := { row := rewritesMemoriesUptoRow, standIns := [], harness := (true, "c8bfc1bae2dac7bfe6cec1097ea65255b0447038c1e59337c550ed8f1b8951da"), looks := false }, kinds := [], alts := [], laidByText := true, laidKinds := [.data, .data, .data, .data], laidTests := true, laidLooks := .later }
def RewritesMemoriesUptoCardSaid : Prop := Claim7.holds Tryz.pinned (.plain (OpenSpec.upto rewritesMemoriesSpec)) rewritesMemoriesUptoCard
end Rows
end Go.Proofs.YtnhgdofpomioeaaGreatDoor
