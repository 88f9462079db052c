/-
  NARROWER THAN 'FOR EVERY INPUT', by the rows' own cells (each row's printed sentence says how): EventsEvals: laid · EventsHistory: laid · EventsApply: laid · EventsOwn: laid · CyclesRun: laid · EventsCone: laid · CyclesUnroll: laid.
  DERIVED. THE GIVEN ROWS OF THIS SEAT. 7 by the template 'for every input the law returns true; each argument reads behind the call as it read before'; 0 by the template 'total and deterministic' (their statements: YtafhjckfgmcphaaGreatDoorTotals.lean).
  GIVEN WITH THE SEED: the statements are not yours to turn. If you find one false, say at which input.
  Laid BY PROGRAM, IN A SANDBOX (cutbox-rows.mjs): the forced cells as the released guide's own fill.sh prints them over the translation 6c0464d3e7d61fd0… (all of the seat's roots in one cut). By AI agents, Wed Nov 11 2026. No macro, syntax, notation, axiom, sorry.
-/
import Derived.Test.YtafhjckfgmcphaaGreatDoorChecked
import GoSem.Claim
import GoSem.ClaimJoined
import GoSem.ClaimMapViews
import Derived.JoinedTies
import Derived.KernelRfl
namespace Go.Proofs.YtafhjckfgmcphaaGreatDoor
/- THE CELL 'sum', in the pinned program and in every row, IS THE sha256 OF THE DUMP (.gsa) THAT YtafhjckfgmcphaaGreatDoorProg.lean LOADS. Nothing in Lean hashes anything: it is a label: what it is worth is what the hold of that sum in a sandbox is worth. -/
noncomputable def Tryz.pinned : Pinned := { name := "ytafhjckfgmcphaagreatdoor", sum := "6c0464d3e7d61fd07619d241f2c5407ad9f3c0e8cb9a19b2094e25ee972ef62a", checked := Tryz.checked }
namespace Rows
def none {H : Type} : Left H := { results := [], args := [] }

/- WHAT THE LISTED PACKAGE-LEVEL VARIABLES READ AS WHEN THE CALL BEGINS. Each datum BY PROGRAM (the guide's laid-datum.mjs) off the statement by which the dump's own 'gosem.cut.vars' lays the variable. In a bare row this is a premise. The card (YtafhjckfgmcphaaGreatDoorCards.lean) ties it to the program's text. -/
def laid_probecard_logic_fanins {H : Type} : DataW H := .agg [.agg [.lit (.int .i64 0), .lit (.int .i64 0)], .agg [.lit (.int .i64 0), .lit (.int .i64 0)], .agg [.lit (.int .i64 0), .lit (.int .i64 0)], .agg [.lit (.int .i64 1), .lit (.int .i64 1)], .agg [.lit (.int .i64 1), .lit (.int .i64 1)], .agg [.lit (.int .i64 2), .lit (.int .i64 16)], .agg [.lit (.int .i64 2), .lit (.int .i64 16)], .agg [.lit (.int .i64 2), .lit (.int .i64 16)], .agg [.lit (.int .i64 2), .lit (.int .i64 16)], .agg [.lit (.int .i64 2), .lit (.int .i64 16)], .agg [.lit (.int .i64 2), .lit (.int .i64 16)], .agg [.lit (.int .i64 3), .lit (.int .i64 3)], .agg [.lit (.int .i64 2), .lit (.int .i64 2)], .agg [.lit (.int .i64 1), .lit (.int .i64 16)], .agg [.lit (.int .i64 1), .lit (.int .i64 1)], .agg [.lit (.int .i64 0), .lit (.int .i64 0)]]
def laid_math_bits_deBruijn32tab {H : Type} : DataW H := .agg [.lit (.int .u8 0), .lit (.int .u8 1), .lit (.int .u8 28), .lit (.int .u8 2), .lit (.int .u8 29), .lit (.int .u8 14), .lit (.int .u8 24), .lit (.int .u8 3), .lit (.int .u8 30), .lit (.int .u8 22), .lit (.int .u8 20), .lit (.int .u8 15), .lit (.int .u8 25), .lit (.int .u8 17), .lit (.int .u8 4), .lit (.int .u8 8), .lit (.int .u8 31), .lit (.int .u8 27), .lit (.int .u8 13), .lit (.int .u8 23), .lit (.int .u8 21), .lit (.int .u8 19), .lit (.int .u8 16), .lit (.int .u8 7), .lit (.int .u8 26), .lit (.int .u8 12), .lit (.int .u8 18), .lit (.int .u8 6), .lit (.int .u8 11), .lit (.int .u8 5), .lit (.int .u8 10), .lit (.int .u8 9)]
def laid_math_bits_deBruijn64tab {H : Type} : DataW H := .agg [.lit (.int .u8 0), .lit (.int .u8 1), .lit (.int .u8 56), .lit (.int .u8 2), .lit (.int .u8 57), .lit (.int .u8 49), .lit (.int .u8 28), .lit (.int .u8 3), .lit (.int .u8 61), .lit (.int .u8 58), .lit (.int .u8 42), .lit (.int .u8 50), .lit (.int .u8 38), .lit (.int .u8 29), .lit (.int .u8 17), .lit (.int .u8 4), .lit (.int .u8 62), .lit (.int .u8 47), .lit (.int .u8 59), .lit (.int .u8 36), .lit (.int .u8 45), .lit (.int .u8 43), .lit (.int .u8 51), .lit (.int .u8 22), .lit (.int .u8 53), .lit (.int .u8 39), .lit (.int .u8 33), .lit (.int .u8 30), .lit (.int .u8 24), .lit (.int .u8 18), .lit (.int .u8 12), .lit (.int .u8 5), .lit (.int .u8 63), .lit (.int .u8 55), .lit (.int .u8 48), .lit (.int .u8 27), .lit (.int .u8 60), .lit (.int .u8 41), .lit (.int .u8 37), .lit (.int .u8 16), .lit (.int .u8 46), .lit (.int .u8 35), .lit (.int .u8 44), .lit (.int .u8 21), .lit (.int .u8 52), .lit (.int .u8 32), .lit (.int .u8 23), .lit (.int .u8 11), .lit (.int .u8 54), .lit (.int .u8 26), .lit (.int .u8 40), .lit (.int .u8 15), .lit (.int .u8 34), .lit (.int .u8 20), .lit (.int .u8 31), .lit (.int .u8 10), .lit (.int .u8 25), .lit (.int .u8 14), .lit (.int .u8 19), .lit (.int .u8 9), .lit (.int .u8 13), .lit (.int .u8 8), .lit (.int .u8 7), .lit (.int .u8 6)]
def laid_internal_strconv_uint64pow10 {H : Type} : DataW H := .agg [.lit (.int .u64 1), .lit (.int .u64 10), .lit (.int .u64 100), .lit (.int .u64 1000), .lit (.int .u64 10000), .lit (.int .u64 100000), .lit (.int .u64 1000000), .lit (.int .u64 10000000), .lit (.int .u64 100000000), .lit (.int .u64 1000000000), .lit (.int .u64 10000000000), .lit (.int .u64 100000000000), .lit (.int .u64 1000000000000), .lit (.int .u64 10000000000000), .lit (.int .u64 100000000000000), .lit (.int .u64 1000000000000000), .lit (.int .u64 10000000000000000), .lit (.int .u64 100000000000000000), .lit (.int .u64 1000000000000000000), .lit (.int .u64 10000000000000000000)]

/-- 'probecardlaw08.EventsEvals': WHATEVER THE INPUT: true; the input reads as it did. -/
def eventsEvalsSpec : ChangeSpec := { name := "eventsEvals", fn := fun _ => fun
  | [d1, d2, d3] => { results := [.lit (.bool true)], args := [d1, d2, d3] }
  | _ => none }
def eventsEvalsRow : OpenClaim := { program := "ytafhjckfgmcphaagreatdoor", sum := "6c0464d3e7d61fd07619d241f2c5407ad9f3c0e8cb9a19b2094e25ee972ef62a", func := "probecard/probecardlaw08.EventsEvals", spec := "eventsEvals", inPlace := ["internal/bytealg.IndexByteString", "internal/bytealg.IndexString"], unfollowed := true, recurses := true, named := ["probecard/logic.fanins", "internal/bytealg.MaxLen"], apart := false, laid := [("probecard/logic.fanins", laid_probecard_logic_fanins)] }
def EventsEvalsSaid : Prop := eventsEvalsRow.holds Tryz.pinned (OpenSpec.ofChange eventsEvalsSpec)

/-- ITS FALSE NEIGHBOUR: 'it returns false'. Refute it at one input. -/
def eventsEvalsWrong : ChangeSpec := { name := "eventsEvals", fn := fun _ => fun
  | [d1, d2, d3] => { results := [.lit (.bool false)], args := [d1, d2, d3] }
  | _ => none }
def EventsEvalsWrongFalsely : Prop := eventsEvalsRow.holds Tryz.pinned (OpenSpec.ofChange eventsEvalsWrong)

/-- 'probecardlaw08.EventsHistory': WHATEVER THE INPUT: true; the input reads as it did. -/
def eventsHistorySpec : ChangeSpec := { name := "eventsHistory", fn := fun _ => fun
  | [d1, d2, d3] => { results := [.lit (.bool true)], args := [d1, d2, d3] }
  | _ => none }
def eventsHistoryRow : OpenClaim := { program := "ytafhjckfgmcphaagreatdoor", sum := "6c0464d3e7d61fd07619d241f2c5407ad9f3c0e8cb9a19b2094e25ee972ef62a", func := "probecard/probecardlaw08.EventsHistory", spec := "eventsHistory", inPlace := ["internal/bytealg.IndexByteString", "internal/bytealg.IndexString"], unfollowed := true, recurses := true, named := ["probecard/logic.fanins", "internal/bytealg.MaxLen"], apart := false, laid := [("probecard/logic.fanins", laid_probecard_logic_fanins)] }
def EventsHistorySaid : Prop := eventsHistoryRow.holds Tryz.pinned (OpenSpec.ofChange eventsHistorySpec)

/-- ITS FALSE NEIGHBOUR: 'it returns false'. Refute it at one input. -/
def eventsHistoryWrong : ChangeSpec := { name := "eventsHistory", fn := fun _ => fun
  | [d1, d2, d3] => { results := [.lit (.bool false)], args := [d1, d2, d3] }
  | _ => none }
def EventsHistoryWrongFalsely : Prop := eventsHistoryRow.holds Tryz.pinned (OpenSpec.ofChange eventsHistoryWrong)

/-- 'probecardlaw08.EventsApply': WHATEVER THE INPUT: true; the input reads as it did. -/
def eventsApplySpec : ChangeSpec := { name := "eventsApply", fn := fun _ => fun
  | [d1, d2] => { results := [.lit (.bool true)], args := [d1, d2] }
  | _ => none }
def eventsApplyRow : OpenClaim := { program := "ytafhjckfgmcphaagreatdoor", sum := "6c0464d3e7d61fd07619d241f2c5407ad9f3c0e8cb9a19b2094e25ee972ef62a", func := "probecard/probecardlaw08.EventsApply", spec := "eventsApply", inPlace := ["internal/bytealg.IndexByteString", "internal/bytealg.IndexString"], unfollowed := true, recurses := true, named := ["probecard/logic.fanins", "internal/bytealg.MaxLen"], apart := false, laid := [("probecard/logic.fanins", laid_probecard_logic_fanins)] }
def EventsApplySaid : Prop := eventsApplyRow.holds Tryz.pinned (OpenSpec.ofChange eventsApplySpec)

/-- ITS FALSE NEIGHBOUR: 'it returns false'. Refute it at one input. -/
def eventsApplyWrong : ChangeSpec := { name := "eventsApply", fn := fun _ => fun
  | [d1, d2] => { results := [.lit (.bool false)], args := [d1, d2] }
  | _ => none }
def EventsApplyWrongFalsely : Prop := eventsApplyRow.holds Tryz.pinned (OpenSpec.ofChange eventsApplyWrong)

/-- 'probecardlaw08.EventsOwn': WHATEVER THE INPUT: true; the input reads as it did. -/
def eventsOwnSpec : ChangeSpec := { name := "eventsOwn", fn := fun _ => fun
  | [d1, d2, d3] => { results := [.lit (.bool true)], args := [d1, d2, d3] }
  | _ => none }
def eventsOwnRow : OpenClaim := { program := "ytafhjckfgmcphaagreatdoor", sum := "6c0464d3e7d61fd07619d241f2c5407ad9f3c0e8cb9a19b2094e25ee972ef62a", func := "probecard/probecardlaw08.EventsOwn", spec := "eventsOwn", inPlace := ["internal/bytealg.IndexByteString", "internal/bytealg.IndexString"], unfollowed := true, recurses := true, named := ["probecard/logic.fanins", "internal/bytealg.MaxLen"], apart := false, laid := [("probecard/logic.fanins", laid_probecard_logic_fanins)] }
def EventsOwnSaid : Prop := eventsOwnRow.holds Tryz.pinned (OpenSpec.ofChange eventsOwnSpec)

/-- ITS FALSE NEIGHBOUR: 'it returns false'. Refute it at one input. -/
def eventsOwnWrong : ChangeSpec := { name := "eventsOwn", fn := fun _ => fun
  | [d1, d2, d3] => { results := [.lit (.bool false)], args := [d1, d2, d3] }
  | _ => none }
def EventsOwnWrongFalsely : Prop := eventsOwnRow.holds Tryz.pinned (OpenSpec.ofChange eventsOwnWrong)

/-- 'probecardlaw10.CyclesRun': WHATEVER THE INPUT: true; the input reads as it did. -/
def cyclesRunSpec : ChangeSpec := { name := "cyclesRun", fn := fun _ => fun
  | [d1, d2] => { results := [.lit (.bool true)], args := [d1, d2] }
  | _ => none }
def cyclesRunRow : OpenClaim := { program := "ytafhjckfgmcphaagreatdoor", sum := "6c0464d3e7d61fd07619d241f2c5407ad9f3c0e8cb9a19b2094e25ee972ef62a", func := "probecard/probecardlaw10.CyclesRun", spec := "cyclesRun", inPlace := ["internal/bytealg.IndexByteString", "internal/bytealg.IndexString"], unfollowed := true, recurses := true, named := ["probecard/logic.fanins", "internal/strconv.uint64pow10", "math/bits.deBruijn32tab", "math/bits.deBruijn64tab", "internal/bytealg.MaxLen"], apart := false, laid := [("math/bits.deBruijn32tab", laid_math_bits_deBruijn32tab), ("math/bits.deBruijn64tab", laid_math_bits_deBruijn64tab), ("internal/strconv.uint64pow10", laid_internal_strconv_uint64pow10), ("probecard/logic.fanins", laid_probecard_logic_fanins)] }
def CyclesRunSaid : Prop := cyclesRunRow.holds Tryz.pinned (OpenSpec.ofChange cyclesRunSpec)

/-- ITS FALSE NEIGHBOUR: 'it returns false'. Refute it at one input. -/
def cyclesRunWrong : ChangeSpec := { name := "cyclesRun", fn := fun _ => fun
  | [d1, d2] => { results := [.lit (.bool false)], args := [d1, d2] }
  | _ => none }
def CyclesRunWrongFalsely : Prop := cyclesRunRow.holds Tryz.pinned (OpenSpec.ofChange cyclesRunWrong)

/-- 'probecardlaw08.EventsCone': WHATEVER THE INPUT: true; the input reads as it did. -/
def eventsConeSpec : ChangeSpec := { name := "eventsCone", fn := fun _ => fun
  | [d1, d2, d3] => { results := [.lit (.bool true)], args := [d1, d2, d3] }
  | _ => none }
def eventsConeRow : OpenClaim := { program := "ytafhjckfgmcphaagreatdoor", sum := "6c0464d3e7d61fd07619d241f2c5407ad9f3c0e8cb9a19b2094e25ee972ef62a", func := "probecard/probecardlaw08.EventsCone", spec := "eventsCone", inPlace := ["internal/bytealg.IndexByteString", "internal/bytealg.IndexString"], unfollowed := true, recurses := true, named := ["probecard/logic.fanins", "internal/bytealg.MaxLen"], apart := false, laid := [("probecard/logic.fanins", laid_probecard_logic_fanins)] }
def EventsConeSaid : Prop := eventsConeRow.holds Tryz.pinned (OpenSpec.ofChange eventsConeSpec)

/-- ITS FALSE NEIGHBOUR: 'it returns false'. Refute it at one input. -/
def eventsConeWrong : ChangeSpec := { name := "eventsCone", fn := fun _ => fun
  | [d1, d2, d3] => { results := [.lit (.bool false)], args := [d1, d2, d3] }
  | _ => none }
def EventsConeWrongFalsely : Prop := eventsConeRow.holds Tryz.pinned (OpenSpec.ofChange eventsConeWrong)

/-- 'probecardlaw10.CyclesUnroll': WHATEVER THE INPUT: true; the input reads as it did. -/
def cyclesUnrollSpec : ChangeSpec := { name := "cyclesUnroll", fn := fun _ => fun
  | [d1, d2] => { results := [.lit (.bool true)], args := [d1, d2] }
  | _ => none }
def cyclesUnrollRow : OpenClaim := { program := "ytafhjckfgmcphaagreatdoor", sum := "6c0464d3e7d61fd07619d241f2c5407ad9f3c0e8cb9a19b2094e25ee972ef62a", func := "probecard/probecardlaw10.CyclesUnroll", spec := "cyclesUnroll", inPlace := ["internal/bytealg.IndexByteString", "internal/bytealg.IndexString"], unfollowed := true, recurses := true, named := ["probecard/logic.fanins", "internal/strconv.uint64pow10", "math/bits.deBruijn32tab", "math/bits.deBruijn64tab", "internal/bytealg.MaxLen"], apart := false, laid := [("math/bits.deBruijn32tab", laid_math_bits_deBruijn32tab), ("math/bits.deBruijn64tab", laid_math_bits_deBruijn64tab), ("internal/strconv.uint64pow10", laid_internal_strconv_uint64pow10), ("probecard/logic.fanins", laid_probecard_logic_fanins)] }
def CyclesUnrollSaid : Prop := cyclesUnrollRow.holds Tryz.pinned (OpenSpec.ofChange cyclesUnrollSpec)

/-- ITS FALSE NEIGHBOUR: 'it returns false'. Refute it at one input. -/
def cyclesUnrollWrong : ChangeSpec := { name := "cyclesUnroll", fn := fun _ => fun
  | [d1, d2] => { results := [.lit (.bool false)], args := [d1, d2] }
  | _ => none }
def CyclesUnrollWrongFalsely : Prop := cyclesUnrollRow.holds Tryz.pinned (OpenSpec.ofChange cyclesUnrollWrong)

/- THE SECOND FORM. 'bulk': how many values and letters a reading holds, each counted each time it is reached (what is shared counts as often as it is met; a slice's spare places count too). A statement '..UptoSaid' is the law's where the arguments, and the package variables that the reading takes, are together of bulk at most 1048576: NARROWER than '..Said'. Prove '..Said' where nothing that the law and all that it calls make is longer than what came in: it says more and counts as full. Else prove '..UptoSaid'. A law counts once. -/
mutual
def uptoBulk {H : Type} : DataW H → Nat
  | .lit (.string bytes) => bytes.length + 1
  | .lit _ => 1
  | .nil => 1
  | .ptr d => uptoBulk d + 1
  | .slice elems spare => uptoBulkAll elems + uptoBulkAll spare + 1
  | .agg parts => uptoBulkAll parts + 1
  | .iface _ d => uptoBulk d + 1
  | .map entries => uptoBulkEntries entries + 1
  | .held _ => 1
def uptoBulkAll {H : Type} : List (DataW H) → Nat
  | [] => 0
  | d :: r => uptoBulk d + uptoBulkAll r
def uptoBulkEntries {H : Type} : List (Lit × DataW H) → Nat
  | [] => 0
  | x :: r => uptoBulkEntry x + uptoBulkEntries r
def uptoBulkEntry {H : Type} : Lit × DataW H → Nat
  | (.string bytes, d) => bytes.length + uptoBulk d + 1
  | (_, d) => uptoBulk d + 1
 end
def uptoSmall : (H : Type) → List (DataW H) → Bool := fun _ ds => decide (uptoBulkAll ds ≤ 1048576)
def OpenSpec.upto (s : _root_.Go.ChangeSpec) : _root_.Go.OpenSpec := { _root_.Go.OpenSpec.ofChange s with cond := some uptoSmall }

/-- 'probecardlaw08.EventsEvals', WHERE WHAT IT READS IS OF BULK AT MOST 1048576: true; the input reads as it did. -/
def eventsEvalsUptoRow : OpenClaim := { program := "ytafhjckfgmcphaagreatdoor", sum := "6c0464d3e7d61fd07619d241f2c5407ad9f3c0e8cb9a19b2094e25ee972ef62a", func := "probecard/probecardlaw08.EventsEvals", spec := "eventsEvals", inPlace := ["internal/bytealg.IndexByteString", "internal/bytealg.IndexString"], unfollowed := true, recurses := true, named := ["probecard/logic.fanins", "internal/bytealg.MaxLen"], apart := false, laid := [("probecard/logic.fanins", laid_probecard_logic_fanins)], narrowed := true }
def EventsEvalsUptoSaid : Prop := eventsEvalsUptoRow.holds Tryz.pinned (OpenSpec.upto eventsEvalsSpec)

/-- 'probecardlaw08.EventsHistory', WHERE WHAT IT READS IS OF BULK AT MOST 1048576: true; the input reads as it did. -/
def eventsHistoryUptoRow : OpenClaim := { program := "ytafhjckfgmcphaagreatdoor", sum := "6c0464d3e7d61fd07619d241f2c5407ad9f3c0e8cb9a19b2094e25ee972ef62a", func := "probecard/probecardlaw08.EventsHistory", spec := "eventsHistory", inPlace := ["internal/bytealg.IndexByteString", "internal/bytealg.IndexString"], unfollowed := true, recurses := true, named := ["probecard/logic.fanins", "internal/bytealg.MaxLen"], apart := false, laid := [("probecard/logic.fanins", laid_probecard_logic_fanins)], narrowed := true }
def EventsHistoryUptoSaid : Prop := eventsHistoryUptoRow.holds Tryz.pinned (OpenSpec.upto eventsHistorySpec)

/-- 'probecardlaw08.EventsApply', WHERE WHAT IT READS IS OF BULK AT MOST 1048576: true; the input reads as it did. -/
def eventsApplyUptoRow : OpenClaim := { program := "ytafhjckfgmcphaagreatdoor", sum := "6c0464d3e7d61fd07619d241f2c5407ad9f3c0e8cb9a19b2094e25ee972ef62a", func := "probecard/probecardlaw08.EventsApply", spec := "eventsApply", inPlace := ["internal/bytealg.IndexByteString", "internal/bytealg.IndexString"], unfollowed := true, recurses := true, named := ["probecard/logic.fanins", "internal/bytealg.MaxLen"], apart := false, laid := [("probecard/logic.fanins", laid_probecard_logic_fanins)], narrowed := true }
def EventsApplyUptoSaid : Prop := eventsApplyUptoRow.holds Tryz.pinned (OpenSpec.upto eventsApplySpec)

/-- 'probecardlaw08.EventsOwn', WHERE WHAT IT READS IS OF BULK AT MOST 1048576: true; the input reads as it did. -/
def eventsOwnUptoRow : OpenClaim := { program := "ytafhjckfgmcphaagreatdoor", sum := "6c0464d3e7d61fd07619d241f2c5407ad9f3c0e8cb9a19b2094e25ee972ef62a", func := "probecard/probecardlaw08.EventsOwn", spec := "eventsOwn", inPlace := ["internal/bytealg.IndexByteString", "internal/bytealg.IndexString"], unfollowed := true, recurses := true, named := ["probecard/logic.fanins", "internal/bytealg.MaxLen"], apart := false, laid := [("probecard/logic.fanins", laid_probecard_logic_fanins)], narrowed := true }
def EventsOwnUptoSaid : Prop := eventsOwnUptoRow.holds Tryz.pinned (OpenSpec.upto eventsOwnSpec)

/-- 'probecardlaw10.CyclesRun', WHERE WHAT IT READS IS OF BULK AT MOST 1048576: true; the input reads as it did. -/
def cyclesRunUptoRow : OpenClaim := { program := "ytafhjckfgmcphaagreatdoor", sum := "6c0464d3e7d61fd07619d241f2c5407ad9f3c0e8cb9a19b2094e25ee972ef62a", func := "probecard/probecardlaw10.CyclesRun", spec := "cyclesRun", inPlace := ["internal/bytealg.IndexByteString", "internal/bytealg.IndexString"], unfollowed := true, recurses := true, named := ["probecard/logic.fanins", "internal/strconv.uint64pow10", "math/bits.deBruijn32tab", "math/bits.deBruijn64tab", "internal/bytealg.MaxLen"], apart := false, laid := [("math/bits.deBruijn32tab", laid_math_bits_deBruijn32tab), ("math/bits.deBruijn64tab", laid_math_bits_deBruijn64tab), ("internal/strconv.uint64pow10", laid_internal_strconv_uint64pow10), ("probecard/logic.fanins", laid_probecard_logic_fanins)], narrowed := true }
def CyclesRunUptoSaid : Prop := cyclesRunUptoRow.holds Tryz.pinned (OpenSpec.upto cyclesRunSpec)

/-- 'probecardlaw08.EventsCone', WHERE WHAT IT READS IS OF BULK AT MOST 1048576: true; the input reads as it did. -/
def eventsConeUptoRow : OpenClaim := { program := "ytafhjckfgmcphaagreatdoor", sum := "6c0464d3e7d61fd07619d241f2c5407ad9f3c0e8cb9a19b2094e25ee972ef62a", func := "probecard/probecardlaw08.EventsCone", spec := "eventsCone", inPlace := ["internal/bytealg.IndexByteString", "internal/bytealg.IndexString"], unfollowed := true, recurses := true, named := ["probecard/logic.fanins", "internal/bytealg.MaxLen"], apart := false, laid := [("probecard/logic.fanins", laid_probecard_logic_fanins)], narrowed := true }
def EventsConeUptoSaid : Prop := eventsConeUptoRow.holds Tryz.pinned (OpenSpec.upto eventsConeSpec)

/-- 'probecardlaw10.CyclesUnroll', WHERE WHAT IT READS IS OF BULK AT MOST 1048576: true; the input reads as it did. -/
def cyclesUnrollUptoRow : OpenClaim := { program := "ytafhjckfgmcphaagreatdoor", sum := "6c0464d3e7d61fd07619d241f2c5407ad9f3c0e8cb9a19b2094e25ee972ef62a", func := "probecard/probecardlaw10.CyclesUnroll", spec := "cyclesUnroll", inPlace := ["internal/bytealg.IndexByteString", "internal/bytealg.IndexString"], unfollowed := true, recurses := true, named := ["probecard/logic.fanins", "internal/strconv.uint64pow10", "math/bits.deBruijn32tab", "math/bits.deBruijn64tab", "internal/bytealg.MaxLen"], apart := false, laid := [("math/bits.deBruijn32tab", laid_math_bits_deBruijn32tab), ("math/bits.deBruijn64tab", laid_math_bits_deBruijn64tab), ("internal/strconv.uint64pow10", laid_internal_strconv_uint64pow10), ("probecard/logic.fanins", laid_probecard_logic_fanins)], narrowed := true }
def CyclesUnrollUptoSaid : Prop := cyclesUnrollUptoRow.holds Tryz.pinned (OpenSpec.upto cyclesUnrollSpec)

end Rows
end Go.Proofs.YtafhjckfgmcphaaGreatDoor
