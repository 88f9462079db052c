/-
  DERIVED. GIVEN WITH THE SEED: THE CARDS: each row of YtgnghiijbegacaaDoorRows.lean that lists a variable, with what it lists TIED to the program's text (the seventh form; the later family's looks); each row that meets fmt, with fmt's text TOLD by the authors' own Lean function (tested against real Go, not proved from fmt's source: count such statements apart). THE CARD IS WHAT COUNTS. Prove the row's statement (the work); the ties are given (YtgnghiijbegacaaDoorTie.lean); close each card by the builder's one call (the guide's Derived/Test/ToyasCard.lean, 'card_holds'). Laid BY PROGRAM, IN A SANDBOX (cutbox-door.mjs). By AI agents, Wed Nov 11 2026. No macro, syntax, notation, axiom, sorry.
-/
import Derived.Test.YtgnghiijbegacaaDoorRows
import GoSem.ClaimSeven
namespace Go.Proofs.YtgnghiijbegacaaDoor
namespace Rows

/-- THE TIED CARD OF 'probecardlaw34.ScansBalance'. -/
def scansBalanceCard : Claim7 := { stood := { row := scansBalanceRow, standIns := [], harness := (true, "f71e290941d0750648a95301d558ef9e79648638d738d54e661144f093cd80f1"), looks := false }, kinds := [], alts := [], laidByText := true, laidKinds := [.data], laidTests := true, laidLooks := .later }
def ScansBalanceCardSaid : Prop := Claim7.holds Tryd.pinned (.plain (OpenSpec.ofChange scansBalanceSpec)) scansBalanceCard

/-- THE TIED CARD OF 'probecardlaw34.ScansCheck'. -/
def scansCheckCard : Claim7 := { stood := { row := scansCheckRow, standIns := [], harness := (true, "f71e290941d0750648a95301d558ef9e79648638d738d54e661144f093cd80f1"), looks := false }, kinds := [], alts := [], laidByText := true, laidKinds := [.data], laidTests := true, laidLooks := .later }
def ScansCheckCardSaid : Prop := Claim7.holds Tryd.pinned (.plain (OpenSpec.ofChange scansCheckSpec)) scansCheckCard

/-- THE TIED CARD OF 'probecardlaw34.ScansShorten'. -/
def scansShortenCard : Claim7 := { stood := { row := scansShortenRow, standIns := [], harness := (true, "f71e290941d0750648a95301d558ef9e79648638d738d54e661144f093cd80f1"), looks := false }, kinds := [], alts := [], laidByText := true, laidKinds := [.data], laidTests := true, laidLooks := .later }
def ScansShortenCardSaid : Prop := Claim7.holds Tryd.pinned (.plain (OpenSpec.ofChange scansShortenSpec)) scansShortenCard

/-- THE TIED CARD OF 'probecardlaw06.SimsUnique'. -/
def simsUniqueCard : Claim7 := { stood := { row := simsUniqueRow, standIns := [], harness := (true, "f71e290941d0750648a95301d558ef9e79648638d738d54e661144f093cd80f1"), looks := false }, kinds := [], alts := [], laidByText := true, laidKinds := [.data], laidTests := true, laidLooks := .later }
def SimsUniqueCardSaid : Prop := Claim7.holds Tryd.pinned (.plain (OpenSpec.ofChange simsUniqueSpec)) simsUniqueCard

/-- THE TIED CARD OF 'probecardlaw06.SimsKnown'. -/
def simsKnownCard : Claim7 := { stood := { row := simsKnownRow, standIns := [], harness := (true, "f71e290941d0750648a95301d558ef9e79648638d738d54e661144f093cd80f1"), looks := false }, kinds := [], alts := [], laidByText := true, laidKinds := [.data], laidTests := true, laidLooks := .later }
def SimsKnownCardSaid : Prop := Claim7.holds Tryd.pinned (.plain (OpenSpec.ofChange simsKnownSpec)) simsKnownCard

/-- THE TIED CARD OF 'probecardlaw06.SimsFanin'. -/
def simsFaninCard : Claim7 := { stood := { row := simsFaninRow, standIns := [], harness := (true, "f71e290941d0750648a95301d558ef9e79648638d738d54e661144f093cd80f1"), looks := false }, kinds := [], alts := [], laidByText := true, laidKinds := [.data], laidTests := true, laidLooks := .later }
def SimsFaninCardSaid : Prop := Claim7.holds Tryd.pinned (.plain (OpenSpec.ofChange simsFaninSpec)) simsFaninCard

/-- THE TIED CARD OF 'probecardlaw06.SimsMonotone'. -/
def simsMonotoneCard : Claim7 := { stood := { row := simsMonotoneRow, standIns := [], harness := (true, "f71e290941d0750648a95301d558ef9e79648638d738d54e661144f093cd80f1"), looks := false }, kinds := [], alts := [], laidByText := true, laidKinds := [.data], laidTests := true, laidLooks := .later }
def SimsMonotoneCardSaid : Prop := Claim7.holds Tryd.pinned (.plain (OpenSpec.ofChange simsMonotoneSpec)) simsMonotoneCard

/-- THE TIED CARD OF 'probecardlaw34.ScansInsert'. -/
def scansInsertCard : Claim7 := { stood := { row := scansInsertRow, standIns := [], harness := (true, "f71e290941d0750648a95301d558ef9e79648638d738d54e661144f093cd80f1"), looks := false }, kinds := [], alts := [], laidByText := true, laidKinds := [.data, .data, .data, .data], laidTests := true, laidLooks := .later }
def ScansInsertCardSaid : Prop := Claim7.holds Tryd.pinned (.plain (OpenSpec.ofChange scansInsertSpec)) scansInsertCard

/-- THE TIED CARD OF 'probecardlaw34.ScansErrors'. -/
def scansErrorsCard : Claim7 := { stood := { row := scansErrorsRow, standIns := [], harness := (true, "f71e290941d0750648a95301d558ef9e79648638d738d54e661144f093cd80f1"), looks := false }, kinds := [], alts := [], laidByText := true, laidKinds := [.data, .data, .data, .data], laidTests := true, laidLooks := .later }
def ScansErrorsCardSaid : Prop := Claim7.holds Tryd.pinned (.plain (OpenSpec.ofChange scansErrorsSpec)) scansErrorsCard

/-- THE SECOND FORM's CARD OF 'probecardlaw34.ScansBalance'. -/
def scansBalanceUptoCard : Claim7 := { stood := { row := scansBalanceUptoRow, standIns := [], harness := (true, "f71e290941d0750648a95301d558ef9e79648638d738d54e661144f093cd80f1"), looks := false }, kinds := [], alts := [], laidByText := true, laidKinds := [.data], laidTests := true, laidLooks := .later }
def ScansBalanceUptoCardSaid : Prop := Claim7.holds Tryd.pinned (.plain (OpenSpec.upto scansBalanceSpec)) scansBalanceUptoCard

/-- THE SECOND FORM's CARD OF 'probecardlaw34.ScansCheck'. -/
def scansCheckUptoCard : Claim7 := { stood := { row := scansCheckUptoRow, standIns := [], harness := (true, "f71e290941d0750648a95301d558ef9e79648638d738d54e661144f093cd80f1"), looks := false }, kinds := [], alts := [], laidByText := true, laidKinds := [.data], laidTests := true, laidLooks := .later }
def ScansCheckUptoCardSaid : Prop := Claim7.holds Tryd.pinned (.plain (OpenSpec.upto scansCheckSpec)) scansCheckUptoCard

/-- THE SECOND FORM's CARD OF 'probecardlaw34.ScansShorten'. -/
def scansShortenUptoCard : Claim7 := { stood := { row := scansShortenUptoRow, standIns := [], harness := (true, "f71e290941d0750648a95301d558ef9e79648638d738d54e661144f093cd80f1"), looks := false }, kinds := [], alts := [], laidByText := true, laidKinds := [.data], laidTests := true, laidLooks := .later }
def ScansShortenUptoCardSaid : Prop := Claim7.holds Tryd.pinned (.plain (OpenSpec.upto scansShortenSpec)) scansShortenUptoCard

/-- THE SECOND FORM's CARD OF 'probecardlaw06.SimsUnique'. -/
def simsUniqueUptoCard : Claim7 := { stood := { row := simsUniqueUptoRow, standIns := [], harness := (true, "f71e290941d0750648a95301d558ef9e79648638d738d54e661144f093cd80f1"), looks := false }, kinds := [], alts := [], laidByText := true, laidKinds := [.data], laidTests := true, laidLooks := .later }
def SimsUniqueUptoCardSaid : Prop := Claim7.holds Tryd.pinned (.plain (OpenSpec.upto simsUniqueSpec)) simsUniqueUptoCard

/-- THE SECOND FORM's CARD OF 'probecardlaw06.SimsKnown'. -/
def simsKnownUptoCard : Claim7 := { stood := { row := simsKnownUptoRow, standIns := [], harness := (true, "f71e290941d0750648a95301d558ef9e79648638d738d54e661144f093cd80f1"), looks := false }, kinds := [], alts := [], laidByText := true, laidKinds := [.data], laidTests := true, laidLooks := .later }
def SimsKnownUptoCardSaid : Prop := Claim7.holds Tryd.pinned (.plain (OpenSpec.upto simsKnownSpec)) simsKnownUptoCard

/-- THE SECOND FORM's CARD OF 'probecardlaw06.SimsFanin'. -/
def simsFaninUptoCard : Claim7 := { stood := { row := simsFaninUptoRow, standIns := [], harness := (true, "f71e290941d0750648a95301d558ef9e79648638d738d54e661144f093cd80f1"), looks := false }, kinds := [], alts := [], laidByText := true, laidKinds := [.data], laidTests := true, laidLooks := .later }
def SimsFaninUptoCardSaid : Prop := Claim7.holds Tryd.pinned (.plain (OpenSpec.upto simsFaninSpec)) simsFaninUptoCard

/-- THE SECOND FORM's CARD OF 'probecardlaw06.SimsMonotone'. -/
def simsMonotoneUptoCard : Claim7 := { stood := { row := simsMonotoneUptoRow, standIns := [], harness := (true, "f71e290941d0750648a95301d558ef9e79648638d738d54e661144f093cd80f1"), looks := false }, kinds := [], alts := [], laidByText := true, laidKinds := [.data], laidTests := true, laidLooks := .later }
def SimsMonotoneUptoCardSaid : Prop := Claim7.holds Tryd.pinned (.plain (OpenSpec.upto simsMonotoneSpec)) simsMonotoneUptoCard

/-- THE SECOND FORM's CARD OF 'probecardlaw34.ScansInsert'. -/
def scansInsertUptoCard : Claim7 := { stood := { row := scansInsertUptoRow, standIns := [], harness := (true, "f71e290941d0750648a95301d558ef9e79648638d738d54e661144f093cd80f1"), looks := false }, kinds := [], alts := [], laidByText := true, laidKinds := [.data, .data, .data, .data], laidTests := true, laidLooks := .later }
def ScansInsertUptoCardSaid : Prop := Claim7.holds Tryd.pinned (.plain (OpenSpec.upto scansInsertSpec)) scansInsertUptoCard

/-- THE SECOND FORM's CARD OF 'probecardlaw34.ScansErrors'. -/
def scansErrorsUptoCard : Claim7 := { stood := { row := scansErrorsUptoRow, standIns := [], harness := (true, "f71e290941d0750648a95301d558ef9e79648638d738d54e661144f093cd80f1"), looks := false }, kinds := [], alts := [], laidByText := true, laidKinds := [.data, .data, .data, .data], laidTests := true, laidLooks := .later }
def ScansErrorsUptoCardSaid : Prop := Claim7.holds Tryd.pinned (.plain (OpenSpec.upto scansErrorsSpec)) scansErrorsUptoCard
end Rows
end Go.Proofs.YtgnghiijbegacaaDoor
