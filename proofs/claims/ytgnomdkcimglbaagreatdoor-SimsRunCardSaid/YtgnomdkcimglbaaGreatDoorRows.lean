/-
  NARROWER THAN 'FOR EVERY INPUT', by the rows' own cells (each row's printed sentence says how): SimsRun: laid · LaunchesBefore: laid · ScansModes: laid · ShiftsPlay: laid · ShiftsLoads: laid · ShiftsApply: laid · ShiftsErrors: laid · LaunchesTest: laid · LaunchesCapture: laid · LaunchesShift: laid.
  DERIVED. THE GIVEN ROWS OF THIS SEAT. 10 by the template 'for every input the law returns true; each argument reads behind the call as it read before'; 0 by the template 'total and deterministic' (their statements: YtgnomdkcimglbaaGreatDoorTotals.lean).
  GIVEN WITH THE SEED: the statements are not yours to turn. If you find one false, say at which input.
  Laid BY PROGRAM, IN A SANDBOX (cutbox-rows.mjs): the forced cells as the released guide's own fill.sh prints them over the translation 4fdd529a602fe71f… (all of the seat's roots in one cut). By AI agents, Wed Nov 11 2026. No macro, syntax, notation, axiom, sorry.
-/
import Derived.Test.YtgnomdkcimglbaaGreatDoorChecked
import GoSem.Claim
import GoSem.ClaimJoined
import GoSem.ClaimMapViews
import Derived.JoinedTies
import Derived.KernelRfl
namespace Go.Proofs.YtgnomdkcimglbaaGreatDoor
/- THE CELL 'sum', in the pinned program and in every row, IS THE sha256 OF THE DUMP (.gsa) THAT YtgnomdkcimglbaaGreatDoorProg.lean LOADS. Nothing in Lean hashes anything: it is a label: what it is worth is what the hold of that sum in a sandbox is worth. -/
noncomputable def Tryz.pinned : Pinned := { name := "ytgnomdkcimglbaagreatdoor", sum := "4fdd529a602fe71f71cfbbb56414912985d55717e708fb6e9715d9d969f5b5ce", checked := Tryz.checked }
namespace Rows
def none {H : Type} : Left H := { results := [], args := [] }

/- WHAT THE LISTED PACKAGE-LEVEL VARIABLES READ AS WHEN THE CALL BEGINS. Each datum BY PROGRAM (the guide's laid-datum.mjs) off the statement by which the dump's own 'gosem.cut.vars' lays the variable. In a bare row this is a premise. The card (YtgnomdkcimglbaaGreatDoorCards.lean) ties it to the program's text. -/
def laid_probecard_logic_fanins {H : Type} : DataW H := .agg [.agg [.lit (.int .i64 0), .lit (.int .i64 0)], .agg [.lit (.int .i64 0), .lit (.int .i64 0)], .agg [.lit (.int .i64 0), .lit (.int .i64 0)], .agg [.lit (.int .i64 1), .lit (.int .i64 1)], .agg [.lit (.int .i64 1), .lit (.int .i64 1)], .agg [.lit (.int .i64 2), .lit (.int .i64 16)], .agg [.lit (.int .i64 2), .lit (.int .i64 16)], .agg [.lit (.int .i64 2), .lit (.int .i64 16)], .agg [.lit (.int .i64 2), .lit (.int .i64 16)], .agg [.lit (.int .i64 2), .lit (.int .i64 16)], .agg [.lit (.int .i64 2), .lit (.int .i64 16)], .agg [.lit (.int .i64 3), .lit (.int .i64 3)], .agg [.lit (.int .i64 2), .lit (.int .i64 2)], .agg [.lit (.int .i64 1), .lit (.int .i64 16)], .agg [.lit (.int .i64 1), .lit (.int .i64 1)], .agg [.lit (.int .i64 0), .lit (.int .i64 0)]]
def laid_math_bits_deBruijn32tab {H : Type} : DataW H := .agg [.lit (.int .u8 0), .lit (.int .u8 1), .lit (.int .u8 28), .lit (.int .u8 2), .lit (.int .u8 29), .lit (.int .u8 14), .lit (.int .u8 24), .lit (.int .u8 3), .lit (.int .u8 30), .lit (.int .u8 22), .lit (.int .u8 20), .lit (.int .u8 15), .lit (.int .u8 25), .lit (.int .u8 17), .lit (.int .u8 4), .lit (.int .u8 8), .lit (.int .u8 31), .lit (.int .u8 27), .lit (.int .u8 13), .lit (.int .u8 23), .lit (.int .u8 21), .lit (.int .u8 19), .lit (.int .u8 16), .lit (.int .u8 7), .lit (.int .u8 26), .lit (.int .u8 12), .lit (.int .u8 18), .lit (.int .u8 6), .lit (.int .u8 11), .lit (.int .u8 5), .lit (.int .u8 10), .lit (.int .u8 9)]
def laid_math_bits_deBruijn64tab {H : Type} : DataW H := .agg [.lit (.int .u8 0), .lit (.int .u8 1), .lit (.int .u8 56), .lit (.int .u8 2), .lit (.int .u8 57), .lit (.int .u8 49), .lit (.int .u8 28), .lit (.int .u8 3), .lit (.int .u8 61), .lit (.int .u8 58), .lit (.int .u8 42), .lit (.int .u8 50), .lit (.int .u8 38), .lit (.int .u8 29), .lit (.int .u8 17), .lit (.int .u8 4), .lit (.int .u8 62), .lit (.int .u8 47), .lit (.int .u8 59), .lit (.int .u8 36), .lit (.int .u8 45), .lit (.int .u8 43), .lit (.int .u8 51), .lit (.int .u8 22), .lit (.int .u8 53), .lit (.int .u8 39), .lit (.int .u8 33), .lit (.int .u8 30), .lit (.int .u8 24), .lit (.int .u8 18), .lit (.int .u8 12), .lit (.int .u8 5), .lit (.int .u8 63), .lit (.int .u8 55), .lit (.int .u8 48), .lit (.int .u8 27), .lit (.int .u8 60), .lit (.int .u8 41), .lit (.int .u8 37), .lit (.int .u8 16), .lit (.int .u8 46), .lit (.int .u8 35), .lit (.int .u8 44), .lit (.int .u8 21), .lit (.int .u8 52), .lit (.int .u8 32), .lit (.int .u8 23), .lit (.int .u8 11), .lit (.int .u8 54), .lit (.int .u8 26), .lit (.int .u8 40), .lit (.int .u8 15), .lit (.int .u8 34), .lit (.int .u8 20), .lit (.int .u8 31), .lit (.int .u8 10), .lit (.int .u8 25), .lit (.int .u8 14), .lit (.int .u8 19), .lit (.int .u8 9), .lit (.int .u8 13), .lit (.int .u8 8), .lit (.int .u8 7), .lit (.int .u8 6)]
def laid_internal_strconv_uint64pow10 {H : Type} : DataW H := .agg [.lit (.int .u64 1), .lit (.int .u64 10), .lit (.int .u64 100), .lit (.int .u64 1000), .lit (.int .u64 10000), .lit (.int .u64 100000), .lit (.int .u64 1000000), .lit (.int .u64 10000000), .lit (.int .u64 100000000), .lit (.int .u64 1000000000), .lit (.int .u64 10000000000), .lit (.int .u64 100000000000), .lit (.int .u64 1000000000000), .lit (.int .u64 10000000000000), .lit (.int .u64 100000000000000), .lit (.int .u64 1000000000000000), .lit (.int .u64 10000000000000000), .lit (.int .u64 100000000000000000), .lit (.int .u64 1000000000000000000), .lit (.int .u64 10000000000000000000)]

/-- 'probecardlaw06.SimsRun': WHATEVER THE INPUT: true; the input reads as it did. -/
def simsRunSpec : ChangeSpec := { name := "simsRun", fn := fun _ => fun
  | [d1, d2] => { results := [.lit (.bool true)], args := [d1, d2] }
  | _ => none }
def simsRunRow : OpenClaim := { program := "ytgnomdkcimglbaagreatdoor", sum := "4fdd529a602fe71f71cfbbb56414912985d55717e708fb6e9715d9d969f5b5ce", func := "probecard/probecardlaw06.SimsRun", spec := "simsRun", inPlace := ["internal/bytealg.IndexByteString", "internal/bytealg.IndexString"], unfollowed := true, recurses := true, named := ["probecard/logic.fanins", "internal/bytealg.MaxLen"], apart := false, laid := [("probecard/logic.fanins", laid_probecard_logic_fanins)] }
def SimsRunSaid : Prop := simsRunRow.holds Tryz.pinned (OpenSpec.ofChange simsRunSpec)

/-- ITS FALSE NEIGHBOUR: 'it returns false'. Refute it at one input. -/
def simsRunWrong : ChangeSpec := { name := "simsRun", fn := fun _ => fun
  | [d1, d2] => { results := [.lit (.bool false)], args := [d1, d2] }
  | _ => none }
def SimsRunWrongFalsely : Prop := simsRunRow.holds Tryz.pinned (OpenSpec.ofChange simsRunWrong)

/-- 'probecardlaw36.LaunchesBefore': WHATEVER THE INPUT: true; the input reads as it did. -/
def launchesBeforeSpec : ChangeSpec := { name := "launchesBefore", fn := fun _ => fun
  | [d] => { results := [.lit (.bool true)], args := [d] }
  | _ => none }
def launchesBeforeRow : OpenClaim := { program := "ytgnomdkcimglbaagreatdoor", sum := "4fdd529a602fe71f71cfbbb56414912985d55717e708fb6e9715d9d969f5b5ce", func := "probecard/probecardlaw36.LaunchesBefore", spec := "launchesBefore", inPlace := ["internal/bytealg.IndexByteString", "internal/bytealg.IndexString"], unfollowed := true, recurses := true, named := ["probecard/logic.fanins", "internal/strconv.uint64pow10", "math/bits.deBruijn32tab", "math/bits.deBruijn64tab", "internal/bytealg.MaxLen"], apart := false, laid := [("math/bits.deBruijn32tab", laid_math_bits_deBruijn32tab), ("math/bits.deBruijn64tab", laid_math_bits_deBruijn64tab), ("internal/strconv.uint64pow10", laid_internal_strconv_uint64pow10), ("probecard/logic.fanins", laid_probecard_logic_fanins)] }
def LaunchesBeforeSaid : Prop := launchesBeforeRow.holds Tryz.pinned (OpenSpec.ofChange launchesBeforeSpec)

/-- ITS FALSE NEIGHBOUR: 'it returns false'. Refute it at one input. -/
def launchesBeforeWrong : ChangeSpec := { name := "launchesBefore", fn := fun _ => fun
  | [d] => { results := [.lit (.bool false)], args := [d] }
  | _ => none }
def LaunchesBeforeWrongFalsely : Prop := launchesBeforeRow.holds Tryz.pinned (OpenSpec.ofChange launchesBeforeWrong)

/-- 'probecardlaw34.ScansModes': WHATEVER THE INPUT: true; the input reads as it did. -/
def scansModesSpec : ChangeSpec := { name := "scansModes", fn := fun _ => fun
  | [d1, d2, d3] => { results := [.lit (.bool true)], args := [d1, d2, d3] }
  | _ => none }
def scansModesRow : OpenClaim := { program := "ytgnomdkcimglbaagreatdoor", sum := "4fdd529a602fe71f71cfbbb56414912985d55717e708fb6e9715d9d969f5b5ce", func := "probecard/probecardlaw34.ScansModes", spec := "scansModes", inPlace := ["internal/bytealg.IndexByteString", "internal/bytealg.IndexString"], unfollowed := true, recurses := true, named := ["probecard/logic.fanins", "internal/strconv.uint64pow10", "math/bits.deBruijn32tab", "math/bits.deBruijn64tab", "internal/bytealg.MaxLen"], apart := false, laid := [("math/bits.deBruijn32tab", laid_math_bits_deBruijn32tab), ("math/bits.deBruijn64tab", laid_math_bits_deBruijn64tab), ("internal/strconv.uint64pow10", laid_internal_strconv_uint64pow10), ("probecard/logic.fanins", laid_probecard_logic_fanins)] }
def ScansModesSaid : Prop := scansModesRow.holds Tryz.pinned (OpenSpec.ofChange scansModesSpec)

/-- ITS FALSE NEIGHBOUR: 'it returns false'. Refute it at one input. -/
def scansModesWrong : ChangeSpec := { name := "scansModes", fn := fun _ => fun
  | [d1, d2, d3] => { results := [.lit (.bool false)], args := [d1, d2, d3] }
  | _ => none }
def ScansModesWrongFalsely : Prop := scansModesRow.holds Tryz.pinned (OpenSpec.ofChange scansModesWrong)

/-- 'probecardlaw35.ShiftsPlay': WHATEVER THE INPUT: true; the input reads as it did. -/
def shiftsPlaySpec : ChangeSpec := { name := "shiftsPlay", fn := fun _ => fun
  | [d1, d2, d3] => { results := [.lit (.bool true)], args := [d1, d2, d3] }
  | _ => none }
def shiftsPlayRow : OpenClaim := { program := "ytgnomdkcimglbaagreatdoor", sum := "4fdd529a602fe71f71cfbbb56414912985d55717e708fb6e9715d9d969f5b5ce", func := "probecard/probecardlaw35.ShiftsPlay", spec := "shiftsPlay", inPlace := ["internal/bytealg.IndexByteString", "internal/bytealg.IndexString"], unfollowed := true, recurses := true, named := ["probecard/logic.fanins", "internal/strconv.uint64pow10", "math/bits.deBruijn32tab", "math/bits.deBruijn64tab", "internal/bytealg.MaxLen"], apart := false, laid := [("math/bits.deBruijn32tab", laid_math_bits_deBruijn32tab), ("math/bits.deBruijn64tab", laid_math_bits_deBruijn64tab), ("internal/strconv.uint64pow10", laid_internal_strconv_uint64pow10), ("probecard/logic.fanins", laid_probecard_logic_fanins)] }
def ShiftsPlaySaid : Prop := shiftsPlayRow.holds Tryz.pinned (OpenSpec.ofChange shiftsPlaySpec)

/-- ITS FALSE NEIGHBOUR: 'it returns false'. Refute it at one input. -/
def shiftsPlayWrong : ChangeSpec := { name := "shiftsPlay", fn := fun _ => fun
  | [d1, d2, d3] => { results := [.lit (.bool false)], args := [d1, d2, d3] }
  | _ => none }
def ShiftsPlayWrongFalsely : Prop := shiftsPlayRow.holds Tryz.pinned (OpenSpec.ofChange shiftsPlayWrong)

/-- 'probecardlaw35.ShiftsLoads': WHATEVER THE INPUT: true; the input reads as it did. -/
def shiftsLoadsSpec : ChangeSpec := { name := "shiftsLoads", fn := fun _ => fun
  | [d1, d2, d3] => { results := [.lit (.bool true)], args := [d1, d2, d3] }
  | _ => none }
def shiftsLoadsRow : OpenClaim := { program := "ytgnomdkcimglbaagreatdoor", sum := "4fdd529a602fe71f71cfbbb56414912985d55717e708fb6e9715d9d969f5b5ce", func := "probecard/probecardlaw35.ShiftsLoads", spec := "shiftsLoads", inPlace := ["internal/bytealg.IndexByteString", "internal/bytealg.IndexString"], unfollowed := true, recurses := true, named := ["probecard/logic.fanins", "internal/strconv.uint64pow10", "math/bits.deBruijn32tab", "math/bits.deBruijn64tab", "internal/bytealg.MaxLen"], apart := false, laid := [("math/bits.deBruijn32tab", laid_math_bits_deBruijn32tab), ("math/bits.deBruijn64tab", laid_math_bits_deBruijn64tab), ("internal/strconv.uint64pow10", laid_internal_strconv_uint64pow10), ("probecard/logic.fanins", laid_probecard_logic_fanins)] }
def ShiftsLoadsSaid : Prop := shiftsLoadsRow.holds Tryz.pinned (OpenSpec.ofChange shiftsLoadsSpec)

/-- ITS FALSE NEIGHBOUR: 'it returns false'. Refute it at one input. -/
def shiftsLoadsWrong : ChangeSpec := { name := "shiftsLoads", fn := fun _ => fun
  | [d1, d2, d3] => { results := [.lit (.bool false)], args := [d1, d2, d3] }
  | _ => none }
def ShiftsLoadsWrongFalsely : Prop := shiftsLoadsRow.holds Tryz.pinned (OpenSpec.ofChange shiftsLoadsWrong)

/-- 'probecardlaw35.ShiftsApply': WHATEVER THE INPUT: true; the input reads as it did. -/
def shiftsApplySpec : ChangeSpec := { name := "shiftsApply", fn := fun _ => fun
  | [d1, d2, d3] => { results := [.lit (.bool true)], args := [d1, d2, d3] }
  | _ => none }
def shiftsApplyRow : OpenClaim := { program := "ytgnomdkcimglbaagreatdoor", sum := "4fdd529a602fe71f71cfbbb56414912985d55717e708fb6e9715d9d969f5b5ce", func := "probecard/probecardlaw35.ShiftsApply", spec := "shiftsApply", inPlace := ["internal/bytealg.IndexByteString", "internal/bytealg.IndexString"], unfollowed := true, recurses := true, named := ["probecard/logic.fanins", "internal/strconv.uint64pow10", "math/bits.deBruijn32tab", "math/bits.deBruijn64tab", "internal/bytealg.MaxLen"], apart := false, laid := [("math/bits.deBruijn32tab", laid_math_bits_deBruijn32tab), ("math/bits.deBruijn64tab", laid_math_bits_deBruijn64tab), ("internal/strconv.uint64pow10", laid_internal_strconv_uint64pow10), ("probecard/logic.fanins", laid_probecard_logic_fanins)] }
def ShiftsApplySaid : Prop := shiftsApplyRow.holds Tryz.pinned (OpenSpec.ofChange shiftsApplySpec)

/-- ITS FALSE NEIGHBOUR: 'it returns false'. Refute it at one input. -/
def shiftsApplyWrong : ChangeSpec := { name := "shiftsApply", fn := fun _ => fun
  | [d1, d2, d3] => { results := [.lit (.bool false)], args := [d1, d2, d3] }
  | _ => none }
def ShiftsApplyWrongFalsely : Prop := shiftsApplyRow.holds Tryz.pinned (OpenSpec.ofChange shiftsApplyWrong)

/-- 'probecardlaw35.ShiftsErrors': WHATEVER THE INPUT: true; the input reads as it did. -/
def shiftsErrorsSpec : ChangeSpec := { name := "shiftsErrors", fn := fun _ => fun
  | [d1, d2, d3] => { results := [.lit (.bool true)], args := [d1, d2, d3] }
  | _ => none }
def shiftsErrorsRow : OpenClaim := { program := "ytgnomdkcimglbaagreatdoor", sum := "4fdd529a602fe71f71cfbbb56414912985d55717e708fb6e9715d9d969f5b5ce", func := "probecard/probecardlaw35.ShiftsErrors", spec := "shiftsErrors", inPlace := ["internal/bytealg.IndexByteString", "internal/bytealg.IndexString"], unfollowed := true, recurses := true, named := ["probecard/logic.fanins", "internal/strconv.uint64pow10", "math/bits.deBruijn32tab", "math/bits.deBruijn64tab", "internal/bytealg.MaxLen"], apart := false, laid := [("math/bits.deBruijn32tab", laid_math_bits_deBruijn32tab), ("math/bits.deBruijn64tab", laid_math_bits_deBruijn64tab), ("internal/strconv.uint64pow10", laid_internal_strconv_uint64pow10), ("probecard/logic.fanins", laid_probecard_logic_fanins)] }
def ShiftsErrorsSaid : Prop := shiftsErrorsRow.holds Tryz.pinned (OpenSpec.ofChange shiftsErrorsSpec)

/-- ITS FALSE NEIGHBOUR: 'it returns false'. Refute it at one input. -/
def shiftsErrorsWrong : ChangeSpec := { name := "shiftsErrors", fn := fun _ => fun
  | [d1, d2, d3] => { results := [.lit (.bool false)], args := [d1, d2, d3] }
  | _ => none }
def ShiftsErrorsWrongFalsely : Prop := shiftsErrorsRow.holds Tryz.pinned (OpenSpec.ofChange shiftsErrorsWrong)

/-- 'probecardlaw36.LaunchesTest': WHATEVER THE INPUT: true; the input reads as it did. -/
def launchesTestSpec : ChangeSpec := { name := "launchesTest", fn := fun _ => fun
  | [d1, d2] => { results := [.lit (.bool true)], args := [d1, d2] }
  | _ => none }
def launchesTestRow : OpenClaim := { program := "ytgnomdkcimglbaagreatdoor", sum := "4fdd529a602fe71f71cfbbb56414912985d55717e708fb6e9715d9d969f5b5ce", func := "probecard/probecardlaw36.LaunchesTest", spec := "launchesTest", inPlace := ["internal/bytealg.IndexByteString", "internal/bytealg.IndexString", "slices.overlaps[[]probecard/api.Value]"], unfollowed := true, recurses := true, named := ["probecard/logic.fanins", "internal/strconv.uint64pow10", "math/bits.deBruijn32tab", "math/bits.deBruijn64tab", "internal/bytealg.MaxLen"], apart := false, laid := [("math/bits.deBruijn32tab", laid_math_bits_deBruijn32tab), ("math/bits.deBruijn64tab", laid_math_bits_deBruijn64tab), ("internal/strconv.uint64pow10", laid_internal_strconv_uint64pow10), ("probecard/logic.fanins", laid_probecard_logic_fanins)] }
def LaunchesTestSaid : Prop := launchesTestRow.holds Tryz.pinned (OpenSpec.ofChange launchesTestSpec)

/-- ITS FALSE NEIGHBOUR: 'it returns false'. Refute it at one input. -/
def launchesTestWrong : ChangeSpec := { name := "launchesTest", fn := fun _ => fun
  | [d1, d2] => { results := [.lit (.bool false)], args := [d1, d2] }
  | _ => none }
def LaunchesTestWrongFalsely : Prop := launchesTestRow.holds Tryz.pinned (OpenSpec.ofChange launchesTestWrong)

/-- 'probecardlaw36.LaunchesCapture': WHATEVER THE INPUT: true; the input reads as it did. -/
def launchesCaptureSpec : ChangeSpec := { name := "launchesCapture", fn := fun _ => fun
  | [d] => { results := [.lit (.bool true)], args := [d] }
  | _ => none }
def launchesCaptureRow : OpenClaim := { program := "ytgnomdkcimglbaagreatdoor", sum := "4fdd529a602fe71f71cfbbb56414912985d55717e708fb6e9715d9d969f5b5ce", func := "probecard/probecardlaw36.LaunchesCapture", spec := "launchesCapture", inPlace := ["internal/bytealg.IndexByteString", "internal/bytealg.IndexString", "slices.overlaps[[]probecard/api.Value]"], unfollowed := true, recurses := true, named := ["probecard/logic.fanins", "internal/strconv.uint64pow10", "math/bits.deBruijn32tab", "math/bits.deBruijn64tab", "internal/bytealg.MaxLen"], apart := false, laid := [("math/bits.deBruijn32tab", laid_math_bits_deBruijn32tab), ("math/bits.deBruijn64tab", laid_math_bits_deBruijn64tab), ("internal/strconv.uint64pow10", laid_internal_strconv_uint64pow10), ("probecard/logic.fanins", laid_probecard_logic_fanins)] }
def LaunchesCaptureSaid : Prop := launchesCaptureRow.holds Tryz.pinned (OpenSpec.ofChange launchesCaptureSpec)

/-- ITS FALSE NEIGHBOUR: 'it returns false'. Refute it at one input. -/
def launchesCaptureWrong : ChangeSpec := { name := "launchesCapture", fn := fun _ => fun
  | [d] => { results := [.lit (.bool false)], args := [d] }
  | _ => none }
def LaunchesCaptureWrongFalsely : Prop := launchesCaptureRow.holds Tryz.pinned (OpenSpec.ofChange launchesCaptureWrong)

/-- 'probecardlaw36.LaunchesShift': WHATEVER THE INPUT: true; the input reads as it did. -/
def launchesShiftSpec : ChangeSpec := { name := "launchesShift", fn := fun _ => fun
  | [d] => { results := [.lit (.bool true)], args := [d] }
  | _ => none }
def launchesShiftRow : OpenClaim := { program := "ytgnomdkcimglbaagreatdoor", sum := "4fdd529a602fe71f71cfbbb56414912985d55717e708fb6e9715d9d969f5b5ce", func := "probecard/probecardlaw36.LaunchesShift", spec := "launchesShift", inPlace := ["internal/bytealg.IndexByteString", "internal/bytealg.IndexString", "slices.overlaps[[]probecard/api.Value]"], unfollowed := true, recurses := true, named := ["probecard/logic.fanins", "internal/strconv.uint64pow10", "math/bits.deBruijn32tab", "math/bits.deBruijn64tab", "internal/bytealg.MaxLen"], apart := false, laid := [("math/bits.deBruijn32tab", laid_math_bits_deBruijn32tab), ("math/bits.deBruijn64tab", laid_math_bits_deBruijn64tab), ("internal/strconv.uint64pow10", laid_internal_strconv_uint64pow10), ("probecard/logic.fanins", laid_probecard_logic_fanins)] }
def LaunchesShiftSaid : Prop := launchesShiftRow.holds Tryz.pinned (OpenSpec.ofChange launchesShiftSpec)

/-- ITS FALSE NEIGHBOUR: 'it returns false'. Refute it at one input. -/
def launchesShiftWrong : ChangeSpec := { name := "launchesShift", fn := fun _ => fun
  | [d] => { results := [.lit (.bool false)], args := [d] }
  | _ => none }
def LaunchesShiftWrongFalsely : Prop := launchesShiftRow.holds Tryz.pinned (OpenSpec.ofChange launchesShiftWrong)

/- THE SECOND FORM. 'bulk': how many values and letters a reading holds, each counted each time it is reached (what is shared counts as often as it is met; a slice's spare places count too). A statement '..UptoSaid' is the law's where the arguments, and the package variables that the reading takes, are together of bulk at most 1048576: NARROWER than '..Said'. Prove '..Said' where nothing that the law and all that it calls make is longer than what came in: it says more and counts as full. Else prove '..UptoSaid'. A law counts once. -/
mutual
def uptoBulk {H : Type} : DataW H → Nat
  | .lit (.string bytes) => bytes.length + 1
  | .lit _ => 1
  | .nil => 1
  | .ptr d => uptoBulk d + 1
  | .slice elems spare => uptoBulkAll elems + uptoBulkAll spare + 1
  | .agg parts => uptoBulkAll parts + 1
  | .iface _ d => uptoBulk d + 1
  | .map entries => uptoBulkEntries entries + 1
  | .held _ => 1
def uptoBulkAll {H : Type} : List (DataW H) → Nat
  | [] => 0
  | d :: r => uptoBulk d + uptoBulkAll r
def uptoBulkEntries {H : Type} : List (Lit × DataW H) → Nat
  | [] => 0
  | x :: r => uptoBulkEntry x + uptoBulkEntries r
def uptoBulkEntry {H : Type} : Lit × DataW H → Nat
  | (.string bytes, d) => bytes.length + uptoBulk d + 1
  | (_, d) => uptoBulk d + 1
 end
def uptoSmall : (H : Type) → List (DataW H) → Bool := fun _ ds => decide (uptoBulkAll ds ≤ 1048576)
def OpenSpec.upto (s : _root_.Go.ChangeSpec) : _root_.Go.OpenSpec := { _root_.Go.OpenSpec.ofChange s with cond := some uptoSmall }

/-- 'probecardlaw06.SimsRun', WHERE WHAT IT READS IS OF BULK AT MOST 1048576: true; the input reads as it did. -/
def simsRunUptoRow : OpenClaim := { program := "ytgnomdkcimglbaagreatdoor", sum := "4fdd529a602fe71f71cfbbb56414912985d55717e708fb6e9715d9d969f5b5ce", func := "probecard/probecardlaw06.SimsRun", spec := "simsRun", inPlace := ["internal/bytealg.IndexByteString", "internal/bytealg.IndexString"], unfollowed := true, recurses := true, named := ["probecard/logic.fanins", "internal/bytealg.MaxLen"], apart := false, laid := [("probecard/logic.fanins", laid_probecard_logic_fanins)], narrowed := true }
def SimsRunUptoSaid : Prop := simsRunUptoRow.holds Tryz.pinned (OpenSpec.upto simsRunSpec)

/-- 'probecardlaw36.LaunchesBefore', WHERE WHAT IT READS IS OF BULK AT MOST 1048576: true; the input reads as it did. -/
def launchesBeforeUptoRow : OpenClaim := { program := "ytgnomdkcimglbaagreatdoor", sum := "4fdd529a602fe71f71cfbbb56414912985d55717e708fb6e9715d9d969f5b5ce", func := "probecard/probecardlaw36.LaunchesBefore", spec := "launchesBefore", inPlace := ["internal/bytealg.IndexByteString", "internal/bytealg.IndexString"], unfollowed := true, recurses := true, named := ["probecard/logic.fanins", "internal/strconv.uint64pow10", "math/bits.deBruijn32tab", "math/bits.deBruijn64tab", "internal/bytealg.MaxLen"], apart := false, laid := [("math/bits.deBruijn32tab", laid_math_bits_deBruijn32tab), ("math/bits.deBruijn64tab", laid_math_bits_deBruijn64tab), ("internal/strconv.uint64pow10", laid_internal_strconv_uint64pow10), ("probecard/logic.fanins", laid_probecard_logic_fanins)], narrowed := true }
def LaunchesBeforeUptoSaid : Prop := launchesBeforeUptoRow.holds Tryz.pinned (OpenSpec.upto launchesBeforeSpec)

/-- 'probecardlaw34.ScansModes', WHERE WHAT IT READS IS OF BULK AT MOST 1048576: true; the input reads as it did. -/
def scansModesUptoRow : OpenClaim := { program := "ytgnomdkcimglbaagreatdoor", sum := "4fdd529a602fe71f71cfbbb56414912985d55717e708fb6e9715d9d969f5b5ce", func := "probecard/probecardlaw34.ScansModes", spec := "scansModes", inPlace := ["internal/bytealg.IndexByteString", "internal/bytealg.IndexString"], unfollowed := true, recurses := true, named := ["probecard/logic.fanins", "internal/strconv.uint64pow10", "math/bits.deBruijn32tab", "math/bits.deBruijn64tab", "internal/bytealg.MaxLen"], apart := false, laid := [("math/bits.deBruijn32tab", laid_math_bits_deBruijn32tab), ("math/bits.deBruijn64tab", laid_math_bits_deBruijn64tab), ("internal/strconv.uint64pow10", laid_internal_strconv_uint64pow10), ("probecard/logic.fanins", laid_probecard_logic_fanins)], narrowed := true }
def ScansModesUptoSaid : Prop := scansModesUptoRow.holds Tryz.pinned (OpenSpec.upto scansModesSpec)

/-- 'probecardlaw35.ShiftsPlay', WHERE WHAT IT READS IS OF BULK AT MOST 1048576: true; the input reads as it did. -/
def shiftsPlayUptoRow : OpenClaim := { program := "ytgnomdkcimglbaagreatdoor", sum := "4fdd529a602fe71f71cfbbb56414912985d55717e708fb6e9715d9d969f5b5ce", func := "probecard/probecardlaw35.ShiftsPlay", spec := "shiftsPlay", inPlace := ["internal/bytealg.IndexByteString", "internal/bytealg.IndexString"], unfollowed := true, recurses := true, named := ["probecard/logic.fanins", "internal/strconv.uint64pow10", "math/bits.deBruijn32tab", "math/bits.deBruijn64tab", "internal/bytealg.MaxLen"], apart := false, laid := [("math/bits.deBruijn32tab", laid_math_bits_deBruijn32tab), ("math/bits.deBruijn64tab", laid_math_bits_deBruijn64tab), ("internal/strconv.uint64pow10", laid_internal_strconv_uint64pow10), ("probecard/logic.fanins", laid_probecard_logic_fanins)], narrowed := true }
def ShiftsPlayUptoSaid : Prop := shiftsPlayUptoRow.holds Tryz.pinned (OpenSpec.upto shiftsPlaySpec)

/-- 'probecardlaw35.ShiftsLoads', WHERE WHAT IT READS IS OF BULK AT MOST 1048576: true; the input reads as it did. -/
def shiftsLoadsUptoRow : OpenClaim := { program := "ytgnomdkcimglbaagreatdoor", sum := "4fdd529a602fe71f71cfbbb56414912985d55717e708fb6e9715d9d969f5b5ce", func := "probecard/probecardlaw35.ShiftsLoads", spec := "shiftsLoads", inPlace := ["internal/bytealg.IndexByteString", "internal/bytealg.IndexString"], unfollowed := true, recurses := true, named := ["probecard/logic.fanins", "internal/strconv.uint64pow10", "math/bits.deBruijn32tab", "math/bits.deBruijn64tab", "internal/bytealg.MaxLen"], apart := false, laid := [("math/bits.deBruijn32tab", laid_math_bits_deBruijn32tab), ("math/bits.deBruijn64tab", laid_math_bits_deBruijn64tab), ("internal/strconv.uint64pow10", laid_internal_strconv_uint64pow10), ("probecard/logic.fanins", laid_probecard_logic_fanins)], narrowed := true }
def ShiftsLoadsUptoSaid : Prop := shiftsLoadsUptoRow.holds Tryz.pinned (OpenSpec.upto shiftsLoadsSpec)

/-- 'probecardlaw35.ShiftsApply', WHERE WHAT IT READS IS OF BULK AT MOST 1048576: true; the input reads as it did. -/
def shiftsApplyUptoRow : OpenClaim := { program := "ytgnomdkcimglbaagreatdoor", sum := "4fdd529a602fe71f71cfbbb56414912985d55717e708fb6e9715d9d969f5b5ce", func := "probecard/probecardlaw35.ShiftsApply", spec := "shiftsApply", inPlace := ["internal/bytealg.IndexByteString", "internal/bytealg.IndexString"], unfollowed := true, recurses := true, named := ["probecard/logic.fanins", "internal/strconv.uint64pow10", "math/bits.deBruijn32tab", "math/bits.deBruijn64tab", "internal/bytealg.MaxLen"], apart := false, laid := [("math/bits.deBruijn32tab", laid_math_bits_deBruijn32tab), ("math/bits.deBruijn64tab", laid_math_bits_deBruijn64tab), ("internal/strconv.uint64pow10", laid_internal_strconv_uint64pow10), ("probecard/logic.fanins", laid_probecard_logic_fanins)], narrowed := true }
def ShiftsApplyUptoSaid : Prop := shiftsApplyUptoRow.holds Tryz.pinned (OpenSpec.upto shiftsApplySpec)

/-- 'probecardlaw35.ShiftsErrors', WHERE WHAT IT READS IS OF BULK AT MOST 1048576: true; the input reads as it did. -/
def shiftsErrorsUptoRow : OpenClaim := { program := "ytgnomdkcimglbaagreatdoor", sum := "4fdd529a602fe71f71cfbbb56414912985d55717e708fb6e9715d9d969f5b5ce", func := "probecard/probecardlaw35.ShiftsErrors", spec := "shiftsErrors", inPlace := ["internal/bytealg.IndexByteString", "internal/bytealg.IndexString"], unfollowed := true, recurses := true, named := ["probecard/logic.fanins", "internal/strconv.uint64pow10", "math/bits.deBruijn32tab", "math/bits.deBruijn64tab", "internal/bytealg.MaxLen"], apart := false, laid := [("math/bits.deBruijn32tab", laid_math_bits_deBruijn32tab), ("math/bits.deBruijn64tab", laid_math_bits_deBruijn64tab), ("internal/strconv.uint64pow10", laid_internal_strconv_uint64pow10), ("probecard/logic.fanins", laid_probecard_logic_fanins)], narrowed := true }
def ShiftsErrorsUptoSaid : Prop := shiftsErrorsUptoRow.holds Tryz.pinned (OpenSpec.upto shiftsErrorsSpec)

/-- 'probecardlaw36.LaunchesTest', WHERE WHAT IT READS IS OF BULK AT MOST 1048576: true; the input reads as it did. -/
def launchesTestUptoRow : OpenClaim := { program := "ytgnomdkcimglbaagreatdoor", sum := "4fdd529a602fe71f71cfbbb56414912985d55717e708fb6e9715d9d969f5b5ce", func := "probecard/probecardlaw36.LaunchesTest", spec := "launchesTest", inPlace := ["internal/bytealg.IndexByteString", "internal/bytealg.IndexString", "slices.overlaps[[]probecard/api.Value]"], unfollowed := true, recurses := true, named := ["probecard/logic.fanins", "internal/strconv.uint64pow10", "math/bits.deBruijn32tab", "math/bits.deBruijn64tab", "internal/bytealg.MaxLen"], apart := false, laid := [("math/bits.deBruijn32tab", laid_math_bits_deBruijn32tab), ("math/bits.deBruijn64tab", laid_math_bits_deBruijn64tab), ("internal/strconv.uint64pow10", laid_internal_strconv_uint64pow10), ("probecard/logic.fanins", laid_probecard_logic_fanins)], narrowed := true }
def LaunchesTestUptoSaid : Prop := launchesTestUptoRow.holds Tryz.pinned (OpenSpec.upto launchesTestSpec)

/-- 'probecardlaw36.LaunchesCapture', WHERE WHAT IT READS IS OF BULK AT MOST 1048576: true; the input reads as it did. -/
def launchesCaptureUptoRow : OpenClaim := { program := "ytgnomdkcimglbaagreatdoor", sum := "4fdd529a602fe71f71cfbbb56414912985d55717e708fb6e9715d9d969f5b5ce", func := "probecard/probecardlaw36.LaunchesCapture", spec := "launchesCapture", inPlace := ["internal/bytealg.IndexByteString", "internal/bytealg.IndexString", "slices.overlaps[[]probecard/api.Value]"], unfollowed := true, recurses := true, named := ["probecard/logic.fanins", "internal/strconv.uint64pow10", "math/bits.deBruijn32tab", "math/bits.deBruijn64tab", "internal/bytealg.MaxLen"], apart := false, laid := [("math/bits.deBruijn32tab", laid_math_bits_deBruijn32tab), ("math/bits.deBruijn64tab", laid_math_bits_deBruijn64tab), ("internal/strconv.uint64pow10", laid_internal_strconv_uint64pow10), ("probecard/logic.fanins", laid_probecard_logic_fanins)], narrowed := true }
def LaunchesCaptureUptoSaid : Prop := launchesCaptureUptoRow.holds Tryz.pinned (OpenSpec.upto launchesCaptureSpec)

/-- 'probecardlaw36.LaunchesShift', WHERE WHAT IT READS IS OF BULK AT MOST 1048576: true; the input reads as it did. -/
def launchesShiftUptoRow : OpenClaim := { program := "ytgnomdkcimglbaagreatdoor", sum := "4fdd529a602fe71f71cfbbb56414912985d55717e708fb6e9715d9d969f5b5ce", func := "probecard/probecardlaw36.LaunchesShift", spec := "launchesShift", inPlace := ["internal/bytealg.IndexByteString", "internal/bytealg.IndexString", "slices.overlaps[[]probecard/api.Value]"], unfollowed := true, recurses := true, named := ["probecard/logic.fanins", "internal/strconv.uint64pow10", "math/bits.deBruijn32tab", "math/bits.deBruijn64tab", "internal/bytealg.MaxLen"], apart := false, laid := [("math/bits.deBruijn32tab", laid_math_bits_deBruijn32tab), ("math/bits.deBruijn64tab", laid_math_bits_deBruijn64tab), ("internal/strconv.uint64pow10", laid_internal_strconv_uint64pow10), ("probecard/logic.fanins", laid_probecard_logic_fanins)], narrowed := true }
def LaunchesShiftUptoSaid : Prop := launchesShiftUptoRow.holds Tryz.pinned (OpenSpec.upto launchesShiftSpec)

end Rows
end Go.Proofs.YtgnomdkcimglbaaGreatDoor
