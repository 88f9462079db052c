/-
  DERIVED. GIVEN WITH THE SEED: THE CARDS: each row of YtjhbkddcmcfpaaaGreatDoorRows.lean that lists a variable, with what it lists TIED to the program's text (the seventh form; the later family's looks); each row that meets fmt, with fmt's text TOLD by the authors' own Lean function (tested against real Go, not proved from fmt's source: count such statements apart). THE CARD IS WHAT COUNTS. Prove the row's statement (the work); the ties are given (YtjhbkddcmcfpaaaGreatDoorTie.lean); close each card by the builder's one call (the guide's Derived/Test/ToyasCard.lean, 'card_holds'). Laid BY PROGRAM, IN A SANDBOX (cutbox-door.mjs). By AI agents, Wed Nov 11 2026. No macro, syntax, notation, axiom, sorry.
-/
import Derived.Test.YtjhbkddcmcfpaaaGreatDoorRows
import GoSem.ClaimSeven
namespace Go.Proofs.YtjhbkddcmcfpaaaGreatDoor
namespace Rows

/-- THE TIED CARD OF 'probecardlaw28.CnfsTexts'. -/
def cnfsTextsCard : Claim7 := { stood := { row := cnfsTextsRow, standIns := [], harness := (true, "d31a6ddcbea47b9552fddc14ff96aef9007876efb9413f1fc392bba37320007c"), looks := true }, kinds := [], alts := [], laidByText := true, laidKinds := [.data, .data, .data, .data, .sentinel, .sentinel, .data, .pinned], laidTests := true, laidLooks := .later }
def CnfsTextsCardSaid : Prop := Claim7.holds Tryz.pinned (.plain (OpenSpec.ofChange cnfsTextsSpec)) cnfsTextsCard

/-- THE TIED CARD OF 'probecardlaw28.CnfsKnown'. -/
def cnfsKnownCard : Claim7 := { stood := { row := cnfsKnownRow, standIns := [], harness := (true, "d31a6ddcbea47b9552fddc14ff96aef9007876efb9413f1fc392bba37320007c"), looks := true }, kinds := [], alts := [], laidByText := true, laidKinds := [.data, .data, .data, .data, .sentinel, .sentinel, .data, .pinned], laidTests := true, laidLooks := .later }
def CnfsKnownCardSaid : Prop := Claim7.holds Tryz.pinned (.plain (OpenSpec.ofChange cnfsKnownSpec)) cnfsKnownCard

/-- THE SECOND FORM's CARD OF 'probecardlaw28.CnfsTexts'. -/
def cnfsTextsUptoCard : Claim7 := { stood := { row := cnfsTextsUptoRow, standIns := [], harness := (true, "d31a6ddcbea47b9552fddc14ff96aef9007876efb9413f1fc392bba37320007c"), looks := true }, kinds := [], alts := [], laidByText := true, laidKinds := [.data, .data, .data, .data, .sentinel, .sentinel, .data, .pinned], laidTests := true, laidLooks := .later }
def CnfsTextsUptoCardSaid : Prop := Claim7.holds Tryz.pinned (.plain (OpenSpec.upto cnfsTextsSpec)) cnfsTextsUptoCard

/-- THE SECOND FORM's CARD OF 'probecardlaw28.CnfsKnown'. -/
def cnfsKnownUptoCard : Claim7 := { stood := { row := cnfsKnownUptoRow, standIns := [], harness := (true, "d31a6ddcbea47b9552fddc14ff96aef9007876efb9413f1fc392bba37320007c"), looks := true }, kinds := [], alts := [], laidByText := true, laidKinds := [.data, .data, .data, .data, .sentinel, .sentinel, .data, .pinned], laidTests := true, laidLooks := .later }
def CnfsKnownUptoCardSaid : Prop := Claim7.holds Tryz.pinned (.plain (OpenSpec.upto cnfsKnownSpec)) cnfsKnownUptoCard
end Rows
end Go.Proofs.YtjhbkddcmcfpaaaGreatDoor
