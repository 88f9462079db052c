/-
  NARROWER THAN 'FOR EVERY INPUT', by the rows' own cells (each row's printed sentence says how): ScansBalance: laid · ScansCheck: laid · ScansShorten: laid · SimsUnique: laid · SimsKnown: laid · SimsFanin: laid · SimsMonotone: laid · ScansInsert: laid · ScansErrors: laid.
  DERIVED. THE GIVEN ROWS OF THIS SEAT. 9 by the template 'for every input the law returns true; each argument reads behind the call as it read before'; 0 by the template 'total and deterministic' (their statements: YtgnghiijbegacaaDoorTotals.lean).
  GIVEN WITH THE SEED: the statements are not yours to turn. If you find one false, say at which input.
  Laid BY PROGRAM, IN A SANDBOX (cutbox-rows.mjs): the forced cells as the released guide's own fill.sh prints them over the translation f029f5714061e5f0… (all of the seat's roots in one cut). By AI agents, Wed Nov 11 2026. No macro, syntax, notation, axiom, sorry.
-/
import Derived.Test.YtgnghiijbegacaaDoorChecked
import GoSem.Claim
import GoSem.ClaimJoined
import GoSem.ClaimMapViews
import Derived.JoinedTies
import Derived.KernelRfl
namespace Go.Proofs.YtgnghiijbegacaaDoor
/- THE CELL 'sum', in the pinned program and in every row, IS THE sha256 OF THE DUMP (.gsa) THAT YtgnghiijbegacaaDoorProg.lean LOADS. Nothing in Lean hashes anything: it is a label: what it is worth is what the hold of that sum in a sandbox is worth. -/
noncomputable def Tryd.pinned : Pinned := { name := "ytgnghiijbegacaadoor", sum := "f029f5714061e5f08541eaf4dffe31dc55ae405917cea8d051c18d1334648708", checked := Tryd.checked }
namespace Rows
def none {H : Type} : Left H := { results := [], args := [] }

/- WHAT THE LISTED PACKAGE-LEVEL VARIABLES READ AS WHEN THE CALL BEGINS. Each datum BY PROGRAM (the guide's laid-datum.mjs) off the statement by which the dump's own 'gosem.cut.vars' lays the variable. In a bare row this is a premise. The card (YtgnghiijbegacaaDoorCards.lean) ties it to the program's text. -/
def laid_probecard_logic_fanins {H : Type} : DataW H := .agg [.agg [.lit (.int .i64 0), .lit (.int .i64 0)], .agg [.lit (.int .i64 0), .lit (.int .i64 0)], .agg [.lit (.int .i64 0), .lit (.int .i64 0)], .agg [.lit (.int .i64 1), .lit (.int .i64 1)], .agg [.lit (.int .i64 1), .lit (.int .i64 1)], .agg [.lit (.int .i64 2), .lit (.int .i64 16)], .agg [.lit (.int .i64 2), .lit (.int .i64 16)], .agg [.lit (.int .i64 2), .lit (.int .i64 16)], .agg [.lit (.int .i64 2), .lit (.int .i64 16)], .agg [.lit (.int .i64 2), .lit (.int .i64 16)], .agg [.lit (.int .i64 2), .lit (.int .i64 16)], .agg [.lit (.int .i64 3), .lit (.int .i64 3)], .agg [.lit (.int .i64 2), .lit (.int .i64 2)], .agg [.lit (.int .i64 1), .lit (.int .i64 16)], .agg [.lit (.int .i64 1), .lit (.int .i64 1)], .agg [.lit (.int .i64 0), .lit (.int .i64 0)]]
def laid_math_bits_deBruijn32tab {H : Type} : DataW H := .agg [.lit (.int .u8 0), .lit (.int .u8 1), .lit (.int .u8 28), .lit (.int .u8 2), .lit (.int .u8 29), .lit (.int .u8 14), .lit (.int .u8 24), .lit (.int .u8 3), .lit (.int .u8 30), .lit (.int .u8 22), .lit (.int .u8 20), .lit (.int .u8 15), .lit (.int .u8 25), .lit (.int .u8 17), .lit (.int .u8 4), .lit (.int .u8 8), .lit (.int .u8 31), .lit (.int .u8 27), .lit (.int .u8 13), .lit (.int .u8 23), .lit (.int .u8 21), .lit (.int .u8 19), .lit (.int .u8 16), .lit (.int .u8 7), .lit (.int .u8 26), .lit (.int .u8 12), .lit (.int .u8 18), .lit (.int .u8 6), .lit (.int .u8 11), .lit (.int .u8 5), .lit (.int .u8 10), .lit (.int .u8 9)]
def laid_math_bits_deBruijn64tab {H : Type} : DataW H := .agg [.lit (.int .u8 0), .lit (.int .u8 1), .lit (.int .u8 56), .lit (.int .u8 2), .lit (.int .u8 57), .lit (.int .u8 49), .lit (.int .u8 28), .lit (.int .u8 3), .lit (.int .u8 61), .lit (.int .u8 58), .lit (.int .u8 42), .lit (.int .u8 50), .lit (.int .u8 38), .lit (.int .u8 29), .lit (.int .u8 17), .lit (.int .u8 4), .lit (.int .u8 62), .lit (.int .u8 47), .lit (.int .u8 59), .lit (.int .u8 36), .lit (.int .u8 45), .lit (.int .u8 43), .lit (.int .u8 51), .lit (.int .u8 22), .lit (.int .u8 53), .lit (.int .u8 39), .lit (.int .u8 33), .lit (.int .u8 30), .lit (.int .u8 24), .lit (.int .u8 18), .lit (.int .u8 12), .lit (.int .u8 5), .lit (.int .u8 63), .lit (.int .u8 55), .lit (.int .u8 48), .lit (.int .u8 27), .lit (.int .u8 60), .lit (.int .u8 41), .lit (.int .u8 37), .lit (.int .u8 16), .lit (.int .u8 46), .lit (.int .u8 35), .lit (.int .u8 44), .lit (.int .u8 21), .lit (.int .u8 52), .lit (.int .u8 32), .lit (.int .u8 23), .lit (.int .u8 11), .lit (.int .u8 54), .lit (.int .u8 26), .lit (.int .u8 40), .lit (.int .u8 15), .lit (.int .u8 34), .lit (.int .u8 20), .lit (.int .u8 31), .lit (.int .u8 10), .lit (.int .u8 25), .lit (.int .u8 14), .lit (.int .u8 19), .lit (.int .u8 9), .lit (.int .u8 13), .lit (.int .u8 8), .lit (.int .u8 7), .lit (.int .u8 6)]
def laid_internal_strconv_uint64pow10 {H : Type} : DataW H := .agg [.lit (.int .u64 1), .lit (.int .u64 10), .lit (.int .u64 100), .lit (.int .u64 1000), .lit (.int .u64 10000), .lit (.int .u64 100000), .lit (.int .u64 1000000), .lit (.int .u64 10000000), .lit (.int .u64 100000000), .lit (.int .u64 1000000000), .lit (.int .u64 10000000000), .lit (.int .u64 100000000000), .lit (.int .u64 1000000000000), .lit (.int .u64 10000000000000), .lit (.int .u64 100000000000000), .lit (.int .u64 1000000000000000), .lit (.int .u64 10000000000000000), .lit (.int .u64 100000000000000000), .lit (.int .u64 1000000000000000000), .lit (.int .u64 10000000000000000000)]

/-- 'probecardlaw34.ScansBalance': WHATEVER THE INPUT: true; the input reads as it did. -/
def scansBalanceSpec : ChangeSpec := { name := "scansBalance", fn := fun _ => fun
  | [d1, d2] => { results := [.lit (.bool true)], args := [d1, d2] }
  | _ => none }
def scansBalanceRow : OpenClaim := { program := "ytgnghiijbegacaadoor", sum := "f029f5714061e5f08541eaf4dffe31dc55ae405917cea8d051c18d1334648708", func := "probecard/probecardlaw34.ScansBalance", spec := "scansBalance", inPlace := ["internal/bytealg.IndexByteString", "internal/bytealg.IndexString"], unfollowed := true, recurses := true, named := ["probecard/logic.fanins", "internal/bytealg.MaxLen"], apart := false, laid := [("probecard/logic.fanins", laid_probecard_logic_fanins)] }
def ScansBalanceSaid : Prop := scansBalanceRow.holds Tryd.pinned (OpenSpec.ofChange scansBalanceSpec)

/-- ITS FALSE NEIGHBOUR: 'it returns false'. Refute it at one input. -/
def scansBalanceWrong : ChangeSpec := { name := "scansBalance", fn := fun _ => fun
  | [d1, d2] => { results := [.lit (.bool false)], args := [d1, d2] }
  | _ => none }
def ScansBalanceWrongFalsely : Prop := scansBalanceRow.holds Tryd.pinned (OpenSpec.ofChange scansBalanceWrong)

/-- 'probecardlaw34.ScansCheck': WHATEVER THE INPUT: true; the input reads as it did. -/
def scansCheckSpec : ChangeSpec := { name := "scansCheck", fn := fun _ => fun
  | [d1, d2] => { results := [.lit (.bool true)], args := [d1, d2] }
  | _ => none }
def scansCheckRow : OpenClaim := { program := "ytgnghiijbegacaadoor", sum := "f029f5714061e5f08541eaf4dffe31dc55ae405917cea8d051c18d1334648708", func := "probecard/probecardlaw34.ScansCheck", spec := "scansCheck", inPlace := ["internal/bytealg.IndexByteString", "internal/bytealg.IndexString"], unfollowed := true, recurses := true, named := ["probecard/logic.fanins", "internal/bytealg.MaxLen"], apart := false, laid := [("probecard/logic.fanins", laid_probecard_logic_fanins)] }
def ScansCheckSaid : Prop := scansCheckRow.holds Tryd.pinned (OpenSpec.ofChange scansCheckSpec)

/-- ITS FALSE NEIGHBOUR: 'it returns false'. Refute it at one input. -/
def scansCheckWrong : ChangeSpec := { name := "scansCheck", fn := fun _ => fun
  | [d1, d2] => { results := [.lit (.bool false)], args := [d1, d2] }
  | _ => none }
def ScansCheckWrongFalsely : Prop := scansCheckRow.holds Tryd.pinned (OpenSpec.ofChange scansCheckWrong)

/-- 'probecardlaw34.ScansShorten': WHATEVER THE INPUT: true; the input reads as it did. -/
def scansShortenSpec : ChangeSpec := { name := "scansShorten", fn := fun _ => fun
  | [d1, d2] => { results := [.lit (.bool true)], args := [d1, d2] }
  | _ => none }
def scansShortenRow : OpenClaim := { program := "ytgnghiijbegacaadoor", sum := "f029f5714061e5f08541eaf4dffe31dc55ae405917cea8d051c18d1334648708", func := "probecard/probecardlaw34.ScansShorten", spec := "scansShorten", inPlace := ["internal/bytealg.IndexByteString", "internal/bytealg.IndexString"], unfollowed := true, recurses := true, named := ["probecard/logic.fanins", "internal/bytealg.MaxLen"], apart := false, laid := [("probecard/logic.fanins", laid_probecard_logic_fanins)] }
def ScansShortenSaid : Prop := scansShortenRow.holds Tryd.pinned (OpenSpec.ofChange scansShortenSpec)

/-- ITS FALSE NEIGHBOUR: 'it returns false'. Refute it at one input. -/
def scansShortenWrong : ChangeSpec := { name := "scansShorten", fn := fun _ => fun
  | [d1, d2] => { results := [.lit (.bool false)], args := [d1, d2] }
  | _ => none }
def ScansShortenWrongFalsely : Prop := scansShortenRow.holds Tryd.pinned (OpenSpec.ofChange scansShortenWrong)

/-- 'probecardlaw06.SimsUnique': WHATEVER THE INPUT: true; the input reads as it did. -/
def simsUniqueSpec : ChangeSpec := { name := "simsUnique", fn := fun _ => fun
  | [d1, d2, d3] => { results := [.lit (.bool true)], args := [d1, d2, d3] }
  | _ => none }
def simsUniqueRow : OpenClaim := { program := "ytgnghiijbegacaadoor", sum := "f029f5714061e5f08541eaf4dffe31dc55ae405917cea8d051c18d1334648708", func := "probecard/probecardlaw06.SimsUnique", spec := "simsUnique", inPlace := ["internal/bytealg.IndexByteString", "internal/bytealg.IndexString"], unfollowed := true, recurses := true, named := ["probecard/logic.fanins", "internal/bytealg.MaxLen"], apart := false, laid := [("probecard/logic.fanins", laid_probecard_logic_fanins)] }
def SimsUniqueSaid : Prop := simsUniqueRow.holds Tryd.pinned (OpenSpec.ofChange simsUniqueSpec)

/-- ITS FALSE NEIGHBOUR: 'it returns false'. Refute it at one input. -/
def simsUniqueWrong : ChangeSpec := { name := "simsUnique", fn := fun _ => fun
  | [d1, d2, d3] => { results := [.lit (.bool false)], args := [d1, d2, d3] }
  | _ => none }
def SimsUniqueWrongFalsely : Prop := simsUniqueRow.holds Tryd.pinned (OpenSpec.ofChange simsUniqueWrong)

/-- 'probecardlaw06.SimsKnown': WHATEVER THE INPUT: true; the input reads as it did. -/
def simsKnownSpec : ChangeSpec := { name := "simsKnown", fn := fun _ => fun
  | [d1, d2, d3] => { results := [.lit (.bool true)], args := [d1, d2, d3] }
  | _ => none }
def simsKnownRow : OpenClaim := { program := "ytgnghiijbegacaadoor", sum := "f029f5714061e5f08541eaf4dffe31dc55ae405917cea8d051c18d1334648708", func := "probecard/probecardlaw06.SimsKnown", spec := "simsKnown", inPlace := ["internal/bytealg.IndexByteString", "internal/bytealg.IndexString"], unfollowed := true, recurses := true, named := ["probecard/logic.fanins", "internal/bytealg.MaxLen"], apart := false, laid := [("probecard/logic.fanins", laid_probecard_logic_fanins)] }
def SimsKnownSaid : Prop := simsKnownRow.holds Tryd.pinned (OpenSpec.ofChange simsKnownSpec)

/-- ITS FALSE NEIGHBOUR: 'it returns false'. Refute it at one input. -/
def simsKnownWrong : ChangeSpec := { name := "simsKnown", fn := fun _ => fun
  | [d1, d2, d3] => { results := [.lit (.bool false)], args := [d1, d2, d3] }
  | _ => none }
def SimsKnownWrongFalsely : Prop := simsKnownRow.holds Tryd.pinned (OpenSpec.ofChange simsKnownWrong)

/-- 'probecardlaw06.SimsFanin': WHATEVER THE INPUT: true; the input reads as it did. -/
def simsFaninSpec : ChangeSpec := { name := "simsFanin", fn := fun _ => fun
  | [d1, d2, d3] => { results := [.lit (.bool true)], args := [d1, d2, d3] }
  | _ => none }
def simsFaninRow : OpenClaim := { program := "ytgnghiijbegacaadoor", sum := "f029f5714061e5f08541eaf4dffe31dc55ae405917cea8d051c18d1334648708", func := "probecard/probecardlaw06.SimsFanin", spec := "simsFanin", inPlace := ["internal/bytealg.IndexByteString", "internal/bytealg.IndexString"], unfollowed := true, recurses := true, named := ["probecard/logic.fanins", "internal/bytealg.MaxLen"], apart := false, laid := [("probecard/logic.fanins", laid_probecard_logic_fanins)] }
def SimsFaninSaid : Prop := simsFaninRow.holds Tryd.pinned (OpenSpec.ofChange simsFaninSpec)

/-- ITS FALSE NEIGHBOUR: 'it returns false'. Refute it at one input. -/
def simsFaninWrong : ChangeSpec := { name := "simsFanin", fn := fun _ => fun
  | [d1, d2, d3] => { results := [.lit (.bool false)], args := [d1, d2, d3] }
  | _ => none }
def SimsFaninWrongFalsely : Prop := simsFaninRow.holds Tryd.pinned (OpenSpec.ofChange simsFaninWrong)

/-- 'probecardlaw06.SimsMonotone': WHATEVER THE INPUT: true; the input reads as it did. -/
def simsMonotoneSpec : ChangeSpec := { name := "simsMonotone", fn := fun _ => fun
  | [d1, d2, d3] => { results := [.lit (.bool true)], args := [d1, d2, d3] }
  | _ => none }
def simsMonotoneRow : OpenClaim := { program := "ytgnghiijbegacaadoor", sum := "f029f5714061e5f08541eaf4dffe31dc55ae405917cea8d051c18d1334648708", func := "probecard/probecardlaw06.SimsMonotone", spec := "simsMonotone", inPlace := ["internal/bytealg.IndexByteString", "internal/bytealg.IndexString"], unfollowed := true, recurses := true, named := ["probecard/logic.fanins", "internal/bytealg.MaxLen"], apart := false, laid := [("probecard/logic.fanins", laid_probecard_logic_fanins)] }
def SimsMonotoneSaid : Prop := simsMonotoneRow.holds Tryd.pinned (OpenSpec.ofChange simsMonotoneSpec)

/-- ITS FALSE NEIGHBOUR: 'it returns false'. Refute it at one input. -/
def simsMonotoneWrong : ChangeSpec := { name := "simsMonotone", fn := fun _ => fun
  | [d1, d2, d3] => { results := [.lit (.bool false)], args := [d1, d2, d3] }
  | _ => none }
def SimsMonotoneWrongFalsely : Prop := simsMonotoneRow.holds Tryd.pinned (OpenSpec.ofChange simsMonotoneWrong)

/-- 'probecardlaw34.ScansInsert': WHATEVER THE INPUT: true; the input reads as it did. -/
def scansInsertSpec : ChangeSpec := { name := "scansInsert", fn := fun _ => fun
  | [d] => { results := [.lit (.bool true)], args := [d] }
  | _ => none }
def scansInsertRow : OpenClaim := { program := "ytgnghiijbegacaadoor", sum := "f029f5714061e5f08541eaf4dffe31dc55ae405917cea8d051c18d1334648708", func := "probecard/probecardlaw34.ScansInsert", spec := "scansInsert", inPlace := ["internal/bytealg.IndexByteString", "internal/bytealg.IndexString"], unfollowed := true, recurses := true, named := ["probecard/logic.fanins", "internal/strconv.uint64pow10", "math/bits.deBruijn32tab", "math/bits.deBruijn64tab", "internal/bytealg.MaxLen"], apart := false, laid := [("math/bits.deBruijn32tab", laid_math_bits_deBruijn32tab), ("math/bits.deBruijn64tab", laid_math_bits_deBruijn64tab), ("internal/strconv.uint64pow10", laid_internal_strconv_uint64pow10), ("probecard/logic.fanins", laid_probecard_logic_fanins)] }
def ScansInsertSaid : Prop := scansInsertRow.holds Tryd.pinned (OpenSpec.ofChange scansInsertSpec)

/-- ITS FALSE NEIGHBOUR: 'it returns false'. Refute it at one input. -/
def scansInsertWrong : ChangeSpec := { name := "scansInsert", fn := fun _ => fun
  | [d] => { results := [.lit (.bool false)], args := [d] }
  | _ => none }
def ScansInsertWrongFalsely : Prop := scansInsertRow.holds Tryd.pinned (OpenSpec.ofChange scansInsertWrong)

/-- 'probecardlaw34.ScansErrors': WHATEVER THE INPUT: true; the input reads as it did. -/
def scansErrorsSpec : ChangeSpec := { name := "scansErrors", fn := fun _ => fun
  | [d1, d2, d3] => { results := [.lit (.bool true)], args := [d1, d2, d3] }
  | _ => none }
def scansErrorsRow : OpenClaim := { program := "ytgnghiijbegacaadoor", sum := "f029f5714061e5f08541eaf4dffe31dc55ae405917cea8d051c18d1334648708", func := "probecard/probecardlaw34.ScansErrors", spec := "scansErrors", inPlace := ["internal/bytealg.IndexByteString", "internal/bytealg.IndexString"], unfollowed := true, recurses := true, named := ["probecard/logic.fanins", "internal/strconv.uint64pow10", "math/bits.deBruijn32tab", "math/bits.deBruijn64tab", "internal/bytealg.MaxLen"], apart := false, laid := [("math/bits.deBruijn32tab", laid_math_bits_deBruijn32tab), ("math/bits.deBruijn64tab", laid_math_bits_deBruijn64tab), ("internal/strconv.uint64pow10", laid_internal_strconv_uint64pow10), ("probecard/logic.fanins", laid_probecard_logic_fanins)] }
def ScansErrorsSaid : Prop := scansErrorsRow.holds Tryd.pinned (OpenSpec.ofChange scansErrorsSpec)

/-- ITS FALSE NEIGHBOUR: 'it returns false'. Refute it at one input. -/
def scansErrorsWrong : ChangeSpec := { name := "scansErrors", fn := fun _ => fun
  | [d1, d2, d3] => { results := [.lit (.bool false)], args := [d1, d2, d3] }
  | _ => none }
def ScansErrorsWrongFalsely : Prop := scansErrorsRow.holds Tryd.pinned (OpenSpec.ofChange scansErrorsWrong)

/- THE SECOND FORM. 'bulk': how many values and letters a reading holds, each counted each time it is reached (what is shared counts as often as it is met; a slice's spare places count too). A statement '..UptoSaid' is the law's where the arguments, and the package variables that the reading takes, are together of bulk at most 1048576: NARROWER than '..Said'. Prove '..Said' where nothing that the law and all that it calls make is longer than what came in: it says more and counts as full. Else prove '..UptoSaid'. A law counts once. -/
mutual
def uptoBulk {H : Type} : DataW H → Nat
  | .lit (.string bytes) => bytes.length + 1
  | .lit _ => 1
  | .nil => 1
  | .ptr d => uptoBulk d + 1
  | .slice elems spare => uptoBulkAll elems + uptoBulkAll spare + 1
  | .agg parts => uptoBulkAll parts + 1
  | .iface _ d => uptoBulk d + 1
  | .map entries => uptoBulkEntries entries + 1
  | .held _ => 1
def uptoBulkAll {H : Type} : List (DataW H) → Nat
  | [] => 0
  | d :: r => uptoBulk d + uptoBulkAll r
def uptoBulkEntries {H : Type} : List (Lit × DataW H) → Nat
  | [] => 0
  | x :: r => uptoBulkEntry x + uptoBulkEntries r
def uptoBulkEntry {H : Type} : Lit × DataW H → Nat
  | (.string bytes, d) => bytes.length + uptoBulk d + 1
  | (_, d) => uptoBulk d + 1
 end
def uptoSmall : (H : Type) → List (DataW H) → Bool := fun _ ds => decide (uptoBulkAll ds ≤ 1048576)
def OpenSpec.upto (s : _root_.Go.ChangeSpec) : _root_.Go.OpenSpec := { _root_.Go.OpenSpec.ofChange s with cond := some uptoSmall }

/-- 'probecardlaw34.ScansBalance', WHERE WHAT IT READS IS OF BULK AT MOST 1048576: true; the input reads as it did. -/
def scansBalanceUptoRow : OpenClaim := { program := "ytgnghiijbegacaadoor", sum := "f029f5714061e5f08541eaf4dffe31dc55ae405917cea8d051c18d1334648708", func := "probecard/probecardlaw34.ScansBalance", spec := "scansBalance", inPlace := ["internal/bytealg.IndexByteString", "internal/bytealg.IndexString"], unfollowed := true, recurses := true, named := ["probecard/logic.fanins", "internal/bytealg.MaxLen"], apart := false, laid := [("probecard/logic.fanins", laid_probecard_logic_fanins)], narrowed := true }
def ScansBalanceUptoSaid : Prop := scansBalanceUptoRow.holds Tryd.pinned (OpenSpec.upto scansBalanceSpec)

/-- 'probecardlaw34.ScansCheck', WHERE WHAT IT READS IS OF BULK AT MOST 1048576: true; the input reads as it did. -/
def scansCheckUptoRow : OpenClaim := { program := "ytgnghiijbegacaadoor", sum := "f029f5714061e5f08541eaf4dffe31dc55ae405917cea8d051c18d1334648708", func := "probecard/probecardlaw34.ScansCheck", spec := "scansCheck", inPlace := ["internal/bytealg.IndexByteString", "internal/bytealg.IndexString"], unfollowed := true, recurses := true, named := ["probecard/logic.fanins", "internal/bytealg.MaxLen"], apart := false, laid := [("probecard/logic.fanins", laid_probecard_logic_fanins)], narrowed := true }
def ScansCheckUptoSaid : Prop := scansCheckUptoRow.holds Tryd.pinned (OpenSpec.upto scansCheckSpec)

/-- 'probecardlaw34.ScansShorten', WHERE WHAT IT READS IS OF BULK AT MOST 1048576: true; the input reads as it did. -/
def scansShortenUptoRow : OpenClaim := { program := "ytgnghiijbegacaadoor", sum := "f029f5714061e5f08541eaf4dffe31dc55ae405917cea8d051c18d1334648708", func := "probecard/probecardlaw34.ScansShorten", spec := "scansShorten", inPlace := ["internal/bytealg.IndexByteString", "internal/bytealg.IndexString"], unfollowed := true, recurses := true, named := ["probecard/logic.fanins", "internal/bytealg.MaxLen"], apart := false, laid := [("probecard/logic.fanins", laid_probecard_logic_fanins)], narrowed := true }
def ScansShortenUptoSaid : Prop := scansShortenUptoRow.holds Tryd.pinned (OpenSpec.upto scansShortenSpec)

/-- 'probecardlaw06.SimsUnique', WHERE WHAT IT READS IS OF BULK AT MOST 1048576: true; the input reads as it did. -/
def simsUniqueUptoRow : OpenClaim := { program := "ytgnghiijbegacaadoor", sum := "f029f5714061e5f08541eaf4dffe31dc55ae405917cea8d051c18d1334648708", func := "probecard/probecardlaw06.SimsUnique", spec := "simsUnique", inPlace := ["internal/bytealg.IndexByteString", "internal/bytealg.IndexString"], unfollowed := true, recurses := true, named := ["probecard/logic.fanins", "internal/bytealg.MaxLen"], apart := false, laid := [("probecard/logic.fanins", laid_probecard_logic_fanins)], narrowed := true }
def SimsUniqueUptoSaid : Prop := simsUniqueUptoRow.holds Tryd.pinned (OpenSpec.upto simsUniqueSpec)

/-- 'probecardlaw06.SimsKnown', WHERE WHAT IT READS IS OF BULK AT MOST 1048576: true; the input reads as it did. -/
def simsKnownUptoRow : OpenClaim := { program := "ytgnghiijbegacaadoor", sum := "f029f5714061e5f08541eaf4dffe31dc55ae405917cea8d051c18d1334648708", func := "probecard/probecardlaw06.SimsKnown", spec := "simsKnown", inPlace := ["internal/bytealg.IndexByteString", "internal/bytealg.IndexString"], unfollowed := true, recurses := true, named := ["probecard/logic.fanins", "internal/bytealg.MaxLen"], apart := false, laid := [("probecard/logic.fanins", laid_probecard_logic_fanins)], narrowed := true }
def SimsKnownUptoSaid : Prop := simsKnownUptoRow.holds Tryd.pinned (OpenSpec.upto simsKnownSpec)

/-- 'probecardlaw06.SimsFanin', WHERE WHAT IT READS IS OF BULK AT MOST 1048576: true; the input reads as it did. -/
def simsFaninUptoRow : OpenClaim := { program := "ytgnghiijbegacaadoor", sum := "f029f5714061e5f08541eaf4dffe31dc55ae405917cea8d051c18d1334648708", func := "probecard/probecardlaw06.SimsFanin", spec := "simsFanin", inPlace := ["internal/bytealg.IndexByteString", "internal/bytealg.IndexString"], unfollowed := true, recurses := true, named := ["probecard/logic.fanins", "internal/bytealg.MaxLen"], apart := false, laid := [("probecard/logic.fanins", laid_probecard_logic_fanins)], narrowed := true }
def SimsFaninUptoSaid : Prop := simsFaninUptoRow.holds Tryd.pinned (OpenSpec.upto simsFaninSpec)

/-- 'probecardlaw06.SimsMonotone', WHERE WHAT IT READS IS OF BULK AT MOST 1048576: true; the input reads as it did. -/
def simsMonotoneUptoRow : OpenClaim := { program := "ytgnghiijbegacaadoor", sum := "f029f5714061e5f08541eaf4dffe31dc55ae405917cea8d051c18d1334648708", func := "probecard/probecardlaw06.SimsMonotone", spec := "simsMonotone", inPlace := ["internal/bytealg.IndexByteString", "internal/bytealg.IndexString"], unfollowed := true, recurses := true, named := ["probecard/logic.fanins", "internal/bytealg.MaxLen"], apart := false, laid := [("probecard/logic.fanins", laid_probecard_logic_fanins)], narrowed := true }
def SimsMonotoneUptoSaid : Prop := simsMonotoneUptoRow.holds Tryd.pinned (OpenSpec.upto simsMonotoneSpec)

/-- 'probecardlaw34.ScansInsert', WHERE WHAT IT READS IS OF BULK AT MOST 1048576: true; the input reads as it did. -/
def scansInsertUptoRow : OpenClaim := { program := "ytgnghiijbegacaadoor", sum := "f029f5714061e5f08541eaf4dffe31dc55ae405917cea8d051c18d1334648708", func := "probecard/probecardlaw34.ScansInsert", spec := "scansInsert", inPlace := ["internal/bytealg.IndexByteString", "internal/bytealg.IndexString"], unfollowed := true, recurses := true, named := ["probecard/logic.fanins", "internal/strconv.uint64pow10", "math/bits.deBruijn32tab", "math/bits.deBruijn64tab", "internal/bytealg.MaxLen"], apart := false, laid := [("math/bits.deBruijn32tab", laid_math_bits_deBruijn32tab), ("math/bits.deBruijn64tab", laid_math_bits_deBruijn64tab), ("internal/strconv.uint64pow10", laid_internal_strconv_uint64pow10), ("probecard/logic.fanins", laid_probecard_logic_fanins)], narrowed := true }
def ScansInsertUptoSaid : Prop := scansInsertUptoRow.holds Tryd.pinned (OpenSpec.upto scansInsertSpec)

/-- 'probecardlaw34.ScansErrors', WHERE WHAT IT READS IS OF BULK AT MOST 1048576: true; the input reads as it did. -/
def scansErrorsUptoRow : OpenClaim := { program := "ytgnghiijbegacaadoor", sum := "f029f5714061e5f08541eaf4dffe31dc55ae405917cea8d051c18d1334648708", func := "probecard/probecardlaw34.ScansErrors", spec := "scansErrors", inPlace := ["internal/bytealg.IndexByteString", "internal/bytealg.IndexString"], unfollowed := true, recurses := true, named := ["probecard/logic.fanins", "internal/strconv.uint64pow10", "math/bits.deBruijn32tab", "math/bits.deBruijn64tab", "internal/bytealg.MaxLen"], apart := false, laid := [("math/bits.deBruijn32tab", laid_math_bits_deBruijn32tab), ("math/bits.deBruijn64tab", laid_math_bits_deBruijn64tab), ("internal/strconv.uint64pow10", laid_internal_strconv_uint64pow10), ("probecard/logic.fanins", laid_probecard_logic_fanins)], narrowed := true }
def ScansErrorsUptoSaid : Prop := scansErrorsUptoRow.holds Tryd.pinned (OpenSpec.upto scansErrorsSpec)

end Rows
end Go.Proofs.YtgnghiijbegacaaDoor
