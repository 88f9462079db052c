/-
  NARROWER THAN 'FOR EVERY INPUT', by the rows' own cells (each row's printed sentence says how): CyclesShape: laid · CyclesRun: laid · CyclesSettled: laid · CyclesUnroll: laid · RewritesSame: laid · RewritesConstants: laid · RewritesBuffers: laid · RewritesMerge: laid · RewritesSweep: laid · RewritesSimplify: laid · RewritesEqual: laid · RewritesErrors: laid · RewritesMemories: laid.
  DERIVED. THE GIVEN ROWS OF THIS SEAT. 13 by the template 'for every input the law returns true; each argument reads behind the call as it read before'; 0 by the template 'total and deterministic' (their statements: YtnhgdofpomioeaaGreatDoorTotals.lean).
  GIVEN WITH THE SEED: the statements are not yours to turn. If you find one false, say at which input.
  Laid BY PROGRAM, IN A SANDBOX (cutbox-rows.mjs): the forced cells as the released guide's own fill.sh prints them over the translation aa8206a17a207da5… (all of the seat's roots in one cut). By AI agents, Wed Nov 11 2026. No macro, syntax, notation, axiom, sorry.
-/
import Derived.Test.YtnhgdofpomioeaaGreatDoorChecked
import GoSem.Claim
import GoSem.ClaimJoined
import GoSem.ClaimMapViews
import Derived.JoinedTies
import Derived.KernelRfl
namespace Go.Proofs.YtnhgdofpomioeaaGreatDoor
/- THE CELL 'sum', in the pinned program and in every row, IS THE sha256 OF THE DUMP (.gsa) THAT YtnhgdofpomioeaaGreatDoorProg.lean LOADS. Nothing in Lean hashes anything: it is a label: what it is worth is what the hold of that sum in a sandbox is worth. -/
noncomputable def Tryz.pinned : Pinned := { name := "ytnhgdofpomioeaagreatdoor", sum := "aa8206a17a207da53c4a5f6a3dafb25115b875cf03cee3e6b9484a674e68846c", checked := Tryz.checked }
namespace Rows
def none {H : Type} : Left H := { results := [], args := [] }

/- WHAT THE LISTED PACKAGE-LEVEL VARIABLES READ AS WHEN THE CALL BEGINS. Each datum BY PROGRAM (the guide's laid-datum.mjs) off the statement by which the dump's own 'gosem.cut.vars' lays the variable. In a bare row this is a premise. The card (YtnhgdofpomioeaaGreatDoorCards.lean) ties it to the program's text. -/
def laid_math_bits_deBruijn32tab {H : Type} : DataW H := .agg [.lit (.int .u8 0), .lit (.int .u8 1), .lit (.int .u8 28), .lit (.int .u8 2), .lit (.int .u8 29), .lit (.int .u8 14), .lit (.int .u8 24), .lit (.int .u8 3), .lit (.int .u8 30), .lit (.int .u8 22), .lit (.int .u8 20), .lit (.int .u8 15), .lit (.int .u8 25), .lit (.int .u8 17), .lit (.int .u8 4), .lit (.int .u8 8), .lit (.int .u8 31), .lit (.int .u8 27), .lit (.int .u8 13), .lit (.int .u8 23), .lit (.int .u8 21), .lit (.int .u8 19), .lit (.int .u8 16), .lit (.int .u8 7), .lit (.int .u8 26), .lit (.int .u8 12), .lit (.int .u8 18), .lit (.int .u8 6), .lit (.int .u8 11), .lit (.int .u8 5), .lit (.int .u8 10), .lit (.int .u8 9)]
def laid_math_bits_deBruijn64tab {H : Type} : DataW H := .agg [.lit (.int .u8 0), .lit (.int .u8 1), .lit (.int .u8 56), .lit (.int .u8 2), .lit (.int .u8 57), .lit (.int .u8 49), .lit (.int .u8 28), .lit (.int .u8 3), .lit (.int .u8 61), .lit (.int .u8 58), .lit (.int .u8 42), .lit (.int .u8 50), .lit (.int .u8 38), .lit (.int .u8 29), .lit (.int .u8 17), .lit (.int .u8 4), .lit (.int .u8 62), .lit (.int .u8 47), .lit (.int .u8 59), .lit (.int .u8 36), .lit (.int .u8 45), .lit (.int .u8 43), .lit (.int .u8 51), .lit (.int .u8 22), .lit (.int .u8 53), .lit (.int .u8 39), .lit (.int .u8 33), .lit (.int .u8 30), .lit (.int .u8 24), .lit (.int .u8 18), .lit (.int .u8 12), .lit (.int .u8 5), .lit (.int .u8 63), .lit (.int .u8 55), .lit (.int .u8 48), .lit (.int .u8 27), .lit (.int .u8 60), .lit (.int .u8 41), .lit (.int .u8 37), .lit (.int .u8 16), .lit (.int .u8 46), .lit (.int .u8 35), .lit (.int .u8 44), .lit (.int .u8 21), .lit (.int .u8 52), .lit (.int .u8 32), .lit (.int .u8 23), .lit (.int .u8 11), .lit (.int .u8 54), .lit (.int .u8 26), .lit (.int .u8 40), .lit (.int .u8 15), .lit (.int .u8 34), .lit (.int .u8 20), .lit (.int .u8 31), .lit (.int .u8 10), .lit (.int .u8 25), .lit (.int .u8 14), .lit (.int .u8 19), .lit (.int .u8 9), .lit (.int .u8 13), .lit (.int .u8 8), .lit (.int .u8 7), .lit (.int .u8 6)]
def laid_internal_strconv_uint64pow10 {H : Type} : DataW H := .agg [.lit (.int .u64 1), .lit (.int .u64 10), .lit (.int .u64 100), .lit (.int .u64 1000), .lit (.int .u64 10000), .lit (.int .u64 100000), .lit (.int .u64 1000000), .lit (.int .u64 10000000), .lit (.int .u64 100000000), .lit (.int .u64 1000000000), .lit (.int .u64 10000000000), .lit (.int .u64 100000000000), .lit (.int .u64 1000000000000), .lit (.int .u64 10000000000000), .lit (.int .u64 100000000000000), .lit (.int .u64 1000000000000000), .lit (.int .u64 10000000000000000), .lit (.int .u64 100000000000000000), .lit (.int .u64 1000000000000000000), .lit (.int .u64 10000000000000000000)]
def laid_probecard_logic_fanins {H : Type} : DataW H := .agg [.agg [.lit (.int .i64 0), .lit (.int .i64 0)], .agg [.lit (.int .i64 0), .lit (.int .i64 0)], .agg [.lit (.int .i64 0), .lit (.int .i64 0)], .agg [.lit (.int .i64 1), .lit (.int .i64 1)], .agg [.lit (.int .i64 1), .lit (.int .i64 1)], .agg [.lit (.int .i64 2), .lit (.int .i64 16)], .agg [.lit (.int .i64 2), .lit (.int .i64 16)], .agg [.lit (.int .i64 2), .lit (.int .i64 16)], .agg [.lit (.int .i64 2), .lit (.int .i64 16)], .agg [.lit (.int .i64 2), .lit (.int .i64 16)], .agg [.lit (.int .i64 2), .lit (.int .i64 16)], .agg [.lit (.int .i64 3), .lit (.int .i64 3)], .agg [.lit (.int .i64 2), .lit (.int .i64 2)], .agg [.lit (.int .i64 1), .lit (.int .i64 16)], .agg [.lit (.int .i64 1), .lit (.int .i64 1)], .agg [.lit (.int .i64 0), .lit (.int .i64 0)]]

/-- 'probecardlaw10.CyclesShape': WHATEVER THE INPUT: true; the input reads as it did. -/
def cyclesShapeSpec : ChangeSpec := { name := "cyclesShape", fn := fun _ => fun
  | [d1, d2] => { results := [.lit (.bool true)], args := [d1, d2] }
  | _ => none }
def cyclesShapeRow : OpenClaim := { program := "ytnhgdofpomioeaagreatdoor", sum := "aa8206a17a207da53c4a5f6a3dafb25115b875cf03cee3e6b9484a674e68846c", func := "probecard/probecardlaw10.CyclesShape", spec := "cyclesShape", inPlace := ["internal/bytealg.IndexByteString", "internal/bytealg.IndexString"], unfollowed := true, recurses := true, named := ["probecard/logic.fanins", "internal/strconv.uint64pow10", "math/bits.deBruijn32tab", "math/bits.deBruijn64tab", "internal/bytealg.MaxLen"], apart := false, laid := [("math/bits.deBruijn32tab", laid_math_bits_deBruijn32tab), ("math/bits.deBruijn64tab", laid_math_bits_deBruijn64tab), ("internal/strconv.uint64pow10", laid_internal_strconv_uint64pow10), ("probecard/logic.fanins", laid_probecard_logic_fanins)] }
def CyclesShapeSaid : Prop := cyclesShapeRow.holds Tryz.pinned (OpenSpec.ofChange cyclesShapeSpec)

/-- ITS FALSE NEIGHBOUR: 'it returns false'. Refute it at one input. -/
def cyclesShapeWrong : ChangeSpec := { name := "cyclesShape", fn := fun _ => fun
  | [d1, d2] => { results := [.lit (.bool false)], args := [d1, d2] }
  | _ => none }
def CyclesShapeWrongFalsely : Prop := cyclesShapeRow.holds Tryz.pinned (OpenSpec.ofChange cyclesShapeWrong)

/-- 'probecardlaw10.CyclesRun': WHATEVER THE INPUT: true; the input reads as it did. -/
def cyclesRunSpec : ChangeSpec := { name := "cyclesRun", fn := fun _ => fun
  | [d1, d2] => { results := [.lit (.bool true)], args := [d1, d2] }
  | _ => none }
def cyclesRunRow : OpenClaim := { program := "ytnhgdofpomioeaagreatdoor", sum := "aa8206a17a207da53c4a5f6a3dafb25115b875cf03cee3e6b9484a674e68846c", func := "probecard/probecardlaw10.CyclesRun", spec := "cyclesRun", inPlace := ["internal/bytealg.IndexByteString", "internal/bytealg.IndexString"], unfollowed := true, recurses := true, named := ["probecard/logic.fanins", "internal/strconv.uint64pow10", "math/bits.deBruijn32tab", "math/bits.deBruijn64tab", "internal/bytealg.MaxLen"], apart := false, laid := [("math/bits.deBruijn32tab", laid_math_bits_deBruijn32tab), ("math/bits.deBruijn64tab", laid_math_bits_deBruijn64tab), ("internal/strconv.uint64pow10", laid_internal_strconv_uint64pow10), ("probecard/logic.fanins", laid_probecard_logic_fanins)] }
def CyclesRunSaid : Prop := cyclesRunRow.holds Tryz.pinned (OpenSpec.ofChange cyclesRunSpec)

/-- ITS FALSE NEIGHBOUR: 'it returns false'. Refute it at one input. -/
def cyclesRunWrong : ChangeSpec := { name := "cyclesRun", fn := fun _ => fun
  | [d1, d2] => { results := [.lit (.bool false)], args := [d1, d2] }
  | _ => none }
def CyclesRunWrongFalsely : Prop := cyclesRunRow.holds Tryz.pinned (OpenSpec.ofChange cyclesRunWrong)

/-- 'probecardlaw10.CyclesSettled': WHATEVER THE INPUT: true; the input reads as it did. -/
def cyclesSettledSpec : ChangeSpec := { name := "cyclesSettled", fn := fun _ => fun
  | [d1, d2] => { results := [.lit (.bool true)], args := [d1, d2] }
  | _ => none }
def cyclesSettledRow : OpenClaim := { program := "ytnhgdofpomioeaagreatdoor", sum := "aa8206a17a207da53c4a5f6a3dafb25115b875cf03cee3e6b9484a674e68846c", func := "probecard/probecardlaw10.CyclesSettled", spec := "cyclesSettled", inPlace := ["internal/bytealg.IndexByteString", "internal/bytealg.IndexString"], unfollowed := true, recurses := true, named := ["probecard/logic.fanins", "internal/strconv.uint64pow10", "math/bits.deBruijn32tab", "math/bits.deBruijn64tab", "internal/bytealg.MaxLen"], apart := false, laid := [("math/bits.deBruijn32tab", laid_math_bits_deBruijn32tab), ("math/bits.deBruijn64tab", laid_math_bits_deBruijn64tab), ("internal/strconv.uint64pow10", laid_internal_strconv_uint64pow10), ("probecard/logic.fanins", laid_probecard_logic_fanins)] }
def CyclesSettledSaid : Prop := cyclesSettledRow.holds Tryz.pinned (OpenSpec.ofChange cyclesSettledSpec)

/-- ITS FALSE NEIGHBOUR: 'it returns false'. Refute it at one input. -/
def cyclesSettledWrong : ChangeSpec := { name := "cyclesSettled", fn := fun _ => fun
  | [d1, d2] => { results := [.lit (.bool false)], args := [d1, d2] }
  | _ => none }
def CyclesSettledWrongFalsely : Prop := cyclesSettledRow.holds Tryz.pinned (OpenSpec.ofChange cyclesSettledWrong)

/-- 'probecardlaw10.CyclesUnroll': WHATEVER THE INPUT: true; the input reads as it did. -/
def cyclesUnrollSpec : ChangeSpec := { name := "cyclesUnroll", fn := fun _ => fun
  | [d1, d2] => { results := [.lit (.bool true)], args := [d1, d2] }
  | _ => none }
def cyclesUnrollRow : OpenClaim := { program := "ytnhgdofpomioeaagreatdoor", sum := "aa8206a17a207da53c4a5f6a3dafb25115b875cf03cee3e6b9484a674e68846c", func := "probecard/probecardlaw10.CyclesUnroll", spec := "cyclesUnroll", inPlace := ["internal/bytealg.IndexByteString", "internal/bytealg.IndexString"], unfollowed := true, recurses := true, named := ["probecard/logic.fanins", "internal/strconv.uint64pow10", "math/bits.deBruijn32tab", "math/bits.deBruijn64tab", "internal/bytealg.MaxLen"], apart := false, laid := [("math/bits.deBruijn32tab", laid_math_bits_deBruijn32tab), ("math/bits.deBruijn64tab", laid_math_bits_deBruijn64tab), ("internal/strconv.uint64pow10", laid_internal_strconv_uint64pow10), ("probecard/logic.fanins", laid_probecard_logic_fanins)] }
def CyclesUnrollSaid : Prop := cyclesUnrollRow.holds Tryz.pinned (OpenSpec.ofChange cyclesUnrollSpec)

/-- ITS FALSE NEIGHBOUR: 'it returns false'. Refute it at one input. -/
def cyclesUnrollWrong : ChangeSpec := { name := "cyclesUnroll", fn := fun _ => fun
  | [d1, d2] => { results := [.lit (.bool false)], args := [d1, d2] }
  | _ => none }
def CyclesUnrollWrongFalsely : Prop := cyclesUnrollRow.holds Tryz.pinned (OpenSpec.ofChange cyclesUnrollWrong)

/-- 'probecardlaw11.RewritesSame': WHATEVER THE INPUT: true; the input reads as it did. -/
def rewritesSameSpec : ChangeSpec := { name := "rewritesSame", fn := fun _ => fun
  | [d1, d2] => { results := [.lit (.bool true)], args := [d1, d2] }
  | _ => none }
def rewritesSameRow : OpenClaim := { program := "ytnhgdofpomioeaagreatdoor", sum := "aa8206a17a207da53c4a5f6a3dafb25115b875cf03cee3e6b9484a674e68846c", func := "probecard/probecardlaw11.RewritesSame", spec := "rewritesSame", inPlace := ["internal/bytealg.IndexByteString", "internal/bytealg.IndexString", "internal/abi.NoEscape"], unfollowed := true, recurses := true, named := ["probecard/logic.fanins", "internal/strconv.uint64pow10", "math/bits.deBruijn32tab", "math/bits.deBruijn64tab", "internal/bytealg.MaxLen"], apart := false, laid := [("math/bits.deBruijn32tab", laid_math_bits_deBruijn32tab), ("math/bits.deBruijn64tab", laid_math_bits_deBruijn64tab), ("internal/strconv.uint64pow10", laid_internal_strconv_uint64pow10), ("probecard/logic.fanins", laid_probecard_logic_fanins)] }
def RewritesSameSaid : Prop := rewritesSameRow.holds Tryz.pinned (OpenSpec.ofChange rewritesSameSpec)

/-- ITS FALSE NEIGHBOUR: 'it returns false'. Refute it at one input. -/
def rewritesSameWrong : ChangeSpec := { name := "rewritesSame", fn := fun _ => fun
  | [d1, d2] => { results := [.lit (.bool false)], args := [d1, d2] }
  | _ => none }
def RewritesSameWrongFalsely : Prop := rewritesSameRow.holds Tryz.pinned (OpenSpec.ofChange rewritesSameWrong)

/-- 'probecardlaw11.RewritesConstants': WHATEVER THE INPUT: true; the input reads as it did. -/
def rewritesConstantsSpec : ChangeSpec := { name := "rewritesConstants", fn := fun _ => fun
  | [d] => { results := [.lit (.bool true)], args := [d] }
  | _ => none }
def rewritesConstantsRow : OpenClaim := { program := "ytnhgdofpomioeaagreatdoor", sum := "aa8206a17a207da53c4a5f6a3dafb25115b875cf03cee3e6b9484a674e68846c", func := "probecard/probecardlaw11.RewritesConstants", spec := "rewritesConstants", inPlace := ["internal/bytealg.IndexByteString", "internal/bytealg.IndexString", "internal/abi.NoEscape"], unfollowed := true, recurses := true, named := ["probecard/logic.fanins", "internal/strconv.uint64pow10", "math/bits.deBruijn32tab", "math/bits.deBruijn64tab", "internal/bytealg.MaxLen"], apart := false, laid := [("math/bits.deBruijn32tab", laid_math_bits_deBruijn32tab), ("math/bits.deBruijn64tab", laid_math_bits_deBruijn64tab), ("internal/strconv.uint64pow10", laid_internal_strconv_uint64pow10), ("probecard/logic.fanins", laid_probecard_logic_fanins)] }
def RewritesConstantsSaid : Prop := rewritesConstantsRow.holds Tryz.pinned (OpenSpec.ofChange rewritesConstantsSpec)

/-- ITS FALSE NEIGHBOUR: 'it returns false'. Refute it at one input. -/
def rewritesConstantsWrong : ChangeSpec := { name := "rewritesConstants", fn := fun _ => fun
  | [d] => { results := [.lit (.bool false)], args := [d] }
  | _ => none }
def RewritesConstantsWrongFalsely : Prop := rewritesConstantsRow.holds Tryz.pinned (OpenSpec.ofChange rewritesConstantsWrong)

/-- 'probecardlaw11.RewritesBuffers': WHATEVER THE INPUT: true; the input reads as it did. -/
def rewritesBuffersSpec : ChangeSpec := { name := "rewritesBuffers", fn := fun _ => fun
  | [d] => { results := [.lit (.bool true)], args := [d] }
  | _ => none }
def rewritesBuffersRow : OpenClaim := { program := "ytnhgdofpomioeaagreatdoor", sum := "aa8206a17a207da53c4a5f6a3dafb25115b875cf03cee3e6b9484a674e68846c", func := "probecard/probecardlaw11.RewritesBuffers", spec := "rewritesBuffers", inPlace := ["internal/bytealg.IndexByteString", "internal/bytealg.IndexString", "internal/abi.NoEscape"], unfollowed := true, recurses := true, named := ["probecard/logic.fanins", "internal/strconv.uint64pow10", "math/bits.deBruijn32tab", "math/bits.deBruijn64tab", "internal/bytealg.MaxLen"], apart := false, laid := [("math/bits.deBruijn32tab", laid_math_bits_deBruijn32tab), ("math/bits.deBruijn64tab", laid_math_bits_deBruijn64tab), ("internal/strconv.uint64pow10", laid_internal_strconv_uint64pow10), ("probecard/logic.fanins", laid_probecard_logic_fanins)] }
def RewritesBuffersSaid : Prop := rewritesBuffersRow.holds Tryz.pinned (OpenSpec.ofChange rewritesBuffersSpec)

/-- ITS FALSE NEIGHBOUR: 'it returns false'. Refute it at one input. -/
def rewritesBuffersWrong : ChangeSpec := { name := "rewritesBuffers", fn := fun _ => fun
  | [d] => { results := [.lit (.bool false)], args := [d] }
  | _ => none }
def RewritesBuffersWrongFalsely : Prop := rewritesBuffersRow.holds Tryz.pinned (OpenSpec.ofChange rewritesBuffersWrong)

/-- 'probecardlaw11.RewritesMerge': WHATEVER THE INPUT: true; the input reads as it did. -/
def rewritesMergeSpec : ChangeSpec := { name := "rewritesMerge", fn := fun _ => fun
  | [d] => { results := [.lit (.bool true)], args := [d] }
  | _ => none }
def rewritesMergeRow : OpenClaim := { program := "ytnhgdofpomioeaagreatdoor", sum := "aa8206a17a207da53c4a5f6a3dafb25115b875cf03cee3e6b9484a674e68846c", func := "probecard/probecardlaw11.RewritesMerge", spec := "rewritesMerge", inPlace := ["internal/bytealg.IndexByteString", "internal/bytealg.IndexString", "internal/abi.NoEscape"], unfollowed := true, recurses := true, named := ["probecard/logic.fanins", "internal/strconv.uint64pow10", "math/bits.deBruijn32tab", "math/bits.deBruijn64tab", "internal/bytealg.MaxLen"], apart := false, laid := [("math/bits.deBruijn32tab", laid_math_bits_deBruijn32tab), ("math/bits.deBruijn64tab", laid_math_bits_deBruijn64tab), ("internal/strconv.uint64pow10", laid_internal_strconv_uint64pow10), ("probecard/logic.fanins", laid_probecard_logic_fanins)] }
def RewritesMergeSaid : Prop := rewritesMergeRow.holds Tryz.pinned (OpenSpec.ofChange rewritesMergeSpec)

/-- ITS FALSE NEIGHBOUR: 'it returns false'. Refute it at one input. -/
def rewritesMergeWrong : ChangeSpec := { name := "rewritesMerge", fn := fun _ => fun
  | [d] => { results := [.lit (.bool false)], args := [d] }
  | _ => none }
def RewritesMergeWrongFalsely : Prop := rewritesMergeRow.holds Tryz.pinned (OpenSpec.ofChange rewritesMergeWrong)

/-- 'probecardlaw11.RewritesSweep': WHATEVER THE INPUT: true; the input reads as it did. -/
def rewritesSweepSpec : ChangeSpec := { name := "rewritesSweep", fn := fun _ => fun
  | [d] => { results := [.lit (.bool true)], args := [d] }
  | _ => none }
def rewritesSweepRow : OpenClaim := { program := "ytnhgdofpomioeaagreatdoor", sum := "aa8206a17a207da53c4a5f6a3dafb25115b875cf03cee3e6b9484a674e68846c", func := "probecard/probecardlaw11.RewritesSweep", spec := "rewritesSweep", inPlace := ["internal/bytealg.IndexByteString", "internal/bytealg.IndexString", "internal/abi.NoEscape"], unfollowed := true, recurses := true, named := ["probecard/logic.fanins", "internal/strconv.uint64pow10", "math/bits.deBruijn32tab", "math/bits.deBruijn64tab", "internal/bytealg.MaxLen"], apart := false, laid := [("math/bits.deBruijn32tab", laid_math_bits_deBruijn32tab), ("math/bits.deBruijn64tab", laid_math_bits_deBruijn64tab), ("internal/strconv.uint64pow10", laid_internal_strconv_uint64pow10), ("probecard/logic.fanins", laid_probecard_logic_fanins)] }
def RewritesSweepSaid : Prop := rewritesSweepRow.holds Tryz.pinned (OpenSpec.ofChange rewritesSweepSpec)

/-- ITS FALSE NEIGHBOUR: 'it returns false'. Refute it at one input. -/
def rewritesSweepWrong : ChangeSpec := { name := "rewritesSweep", fn := fun _ => fun
  | [d] => { results := [.lit (.bool false)], args := [d] }
  | _ => none }
def RewritesSweepWrongFalsely : Prop := rewritesSweepRow.holds Tryz.pinned (OpenSpec.ofChange rewritesSweepWrong)

/-- 'probecardlaw11.RewritesSimplify': WHATEVER THE INPUT: true; the input reads as it did. -/
def rewritesSimplifySpec : ChangeSpec := { name := "rewritesSimplify", fn := fun _ => fun
  | [d] => { results := [.lit (.bool true)], args := [d] }
  | _ => none }
def rewritesSimplifyRow : OpenClaim := { program := "ytnhgdofpomioeaagreatdoor", sum := "aa8206a17a207da53c4a5f6a3dafb25115b875cf03cee3e6b9484a674e68846c", func := "probecard/probecardlaw11.RewritesSimplify", spec := "rewritesSimplify", inPlace := ["internal/bytealg.IndexByteString", "internal/bytealg.IndexString", "internal/abi.NoEscape"], unfollowed := true, recurses := true, named := ["probecard/logic.fanins", "internal/strconv.uint64pow10", "math/bits.deBruijn32tab", "math/bits.deBruijn64tab", "internal/bytealg.MaxLen"], apart := false, laid := [("math/bits.deBruijn32tab", laid_math_bits_deBruijn32tab), ("math/bits.deBruijn64tab", laid_math_bits_deBruijn64tab), ("internal/strconv.uint64pow10", laid_internal_strconv_uint64pow10), ("probecard/logic.fanins", laid_probecard_logic_fanins)] }
def RewritesSimplifySaid : Prop := rewritesSimplifyRow.holds Tryz.pinned (OpenSpec.ofChange rewritesSimplifySpec)

/-- ITS FALSE NEIGHBOUR: 'it returns false'. Refute it at one input. -/
def rewritesSimplifyWrong : ChangeSpec := { name := "rewritesSimplify", fn := fun _ => fun
  | [d] => { results := [.lit (.bool false)], args := [d] }
  | _ => none }
def RewritesSimplifyWrongFalsely : Prop := rewritesSimplifyRow.holds Tryz.pinned (OpenSpec.ofChange rewritesSimplifyWrong)

/-- 'probecardlaw11.RewritesEqual': WHATEVER THE INPUT: true; the input reads as it did. -/
def rewritesEqualSpec : ChangeSpec := { name := "rewritesEqual", fn := fun _ => fun
  | [d1, d2] => { results := [.lit (.bool true)], args := [d1, d2] }
  | _ => none }
def rewritesEqualRow : OpenClaim := { program := "ytnhgdofpomioeaagreatdoor", sum := "aa8206a17a207da53c4a5f6a3dafb25115b875cf03cee3e6b9484a674e68846c", func := "probecard/probecardlaw11.RewritesEqual", spec := "rewritesEqual", inPlace := ["internal/bytealg.IndexByteString", "internal/bytealg.IndexString", "internal/abi.NoEscape"], unfollowed := true, recurses := true, named := ["probecard/logic.fanins", "internal/strconv.uint64pow10", "math/bits.deBruijn32tab", "math/bits.deBruijn64tab", "internal/bytealg.MaxLen"], apart := false, laid := [("math/bits.deBruijn32tab", laid_math_bits_deBruijn32tab), ("math/bits.deBruijn64tab", laid_math_bits_deBruijn64tab), ("internal/strconv.uint64pow10", laid_internal_strconv_uint64pow10), ("probecard/logic.fanins", laid_probecard_logic_fanins)] }
def RewritesEqualSaid : Prop := rewritesEqualRow.holds Tryz.pinned (OpenSpec.ofChange rewritesEqualSpec)

/-- ITS FALSE NEIGHBOUR: 'it returns false'. Refute it at one input. -/
def rewritesEqualWrong : ChangeSpec := { name := "rewritesEqual", fn := fun _ => fun
  | [d1, d2] => { results := [.lit (.bool false)], args := [d1, d2] }
  | _ => none }
def RewritesEqualWrongFalsely : Prop := rewritesEqualRow.holds Tryz.pinned (OpenSpec.ofChange rewritesEqualWrong)

/-- 'probecardlaw11.RewritesErrors': WHATEVER THE INPUT: true; the input reads as it did. -/
def rewritesErrorsSpec : ChangeSpec := { name := "rewritesErrors", fn := fun _ => fun
  | [d1, d2] => { results := [.lit (.bool true)], args := [d1, d2] }
  | _ => none }
def rewritesErrorsRow : OpenClaim := { program := "ytnhgdofpomioeaagreatdoor", sum := "aa8206a17a207da53c4a5f6a3dafb25115b875cf03cee3e6b9484a674e68846c", func := "probecard/probecardlaw11.RewritesErrors", spec := "rewritesErrors", inPlace := ["internal/bytealg.IndexByteString", "internal/bytealg.IndexString", "internal/abi.NoEscape"], unfollowed := true, recurses := true, named := ["probecard/logic.fanins", "internal/strconv.uint64pow10", "math/bits.deBruijn32tab", "math/bits.deBruijn64tab", "internal/bytealg.MaxLen"], apart := false, laid := [("math/bits.deBruijn32tab", laid_math_bits_deBruijn32tab), ("math/bits.deBruijn64tab", laid_math_bits_deBruijn64tab), ("internal/strconv.uint64pow10", laid_internal_strconv_uint64pow10), ("probecard/logic.fanins", laid_probecard_logic_fanins)] }
def RewritesErrorsSaid : Prop := rewritesErrorsRow.holds Tryz.pinned (OpenSpec.ofChange rewritesErrorsSpec)

/-- ITS FALSE NEIGHBOUR: 'it returns false'. Refute it at one input. -/
def rewritesErrorsWrong : ChangeSpec := { name := "rewritesErrors", fn := fun _ => fun
  | [d1, d2] => { results := [.lit (.bool false)], args := [d1, d2] }
  | _ => none }
def RewritesErrorsWrongFalsely : Prop := rewritesErrorsRow.holds Tryz.pinned (OpenSpec.ofChange rewritesErrorsWrong)

/-- 'probecardlaw11.RewritesMemories': WHATEVER THE INPUT: true; the input reads as it did. -/
def rewritesMemoriesSpec : ChangeSpec := { name := "rewritesMemories", fn := fun _ => fun
  | [d1, d2] => { results := [.lit (.bool true)], args := [d1, d2] }
  | _ => none }
def rewritesMemoriesRow : OpenClaim := { program := "ytnhgdofpomioeaagreatdoor", sum := "aa8206a17a207da53c4a5f6a3dafb25115b875cf03cee3e6b9484a674e68846c", func := "probecard/probecardlaw11.RewritesMemories", spec := "rewritesMemories", inPlace := ["internal/bytealg.IndexByteString", "internal/bytealg.IndexString", "internal/abi.NoEscape"], unfollowed := true, recurses := true, named := ["probecard/logic.fanins", "internal/strconv.uint64pow10", "math/bits.deBruijn32tab", "math/bits.deBruijn64tab", "internal/bytealg.MaxLen"], apart := false, laid := [("math/bits.deBruijn32tab", laid_math_bits_deBruijn32tab), ("math/bits.deBruijn64tab", laid_math_bits_deBruijn64tab), ("internal/strconv.uint64pow10", laid_internal_strconv_uint64pow10), ("probecard/logic.fanins", laid_probecard_logic_fanins)] }
def RewritesMemoriesSaid : Prop := rewritesMemoriesRow.holds Tryz.pinned (OpenSpec.ofChange rewritesMemoriesSpec)

/-- ITS FALSE NEIGHBOUR: 'it returns false'. Refute it at one input. -/
def rewritesMemoriesWrong : ChangeSpec := { name := "rewritesMemories", fn := fun _ => fun
  | [d1, d2] => { results := [.lit (.bool false)], args := [d1, d2] }
  | _ => none }
def RewritesMemoriesWrongFalsely : Prop := rewritesMemoriesRow.holds Tryz.pinned (OpenSpec.ofChange rewritesMemoriesWrong)

/- THE SECOND FORM. 'bulk': how many values and letters a reading holds, each counted each time it is reached (what is shared counts as often as it is met; a slice's spare places count too). A statement '..UptoSaid' is the law's where the arguments, and the package variables that the reading takes, are together of bulk at most 1048576: NARROWER than '..Said'. Prove '..Said' where nothing that the law and all that it calls make is longer than what came in: it says more and counts as full. Else prove '..UptoSaid'. A law counts once. -/
mutual
def uptoBulk {H : Type} : DataW H → Nat
  | .lit (.string bytes) => bytes.length + 1
  | .lit _ => 1
  | .nil => 1
  | .ptr d => uptoBulk d + 1
  | .slice elems spare => uptoBulkAll elems + uptoBulkAll spare + 1
  | .agg parts => uptoBulkAll parts + 1
  | .iface _ d => uptoBulk d + 1
  | .map entries => uptoBulkEntries entries + 1
  | .held _ => 1
def uptoBulkAll {H : Type} : List (DataW H) → Nat
  | [] => 0
  | d :: r => uptoBulk d + uptoBulkAll r
def uptoBulkEntries {H : Type} : List (Lit × DataW H) → Nat
  | [] => 0
  | x :: r => uptoBulkEntry x + uptoBulkEntries r
def uptoBulkEntry {H : Type} : Lit × DataW H → Nat
  | (.string bytes, d) => bytes.length + uptoBulk d + 1
  | (_, d) => uptoBulk d + 1
 end
def uptoSmall : (H : Type) → List (DataW H) → Bool := fun _ ds => decide (uptoBulkAll ds ≤ 1048576)
def OpenSpec.upto (s : _root_.Go.ChangeSpec) : _root_.Go.OpenSpec := { _root_.Go.OpenSpec.ofChange s with cond := some uptoSmall }

/-- 'probecardlaw10.CyclesShape', WHERE WHAT IT READS IS OF BULK AT MOST 1048576: true; the input reads as it did. -/
def cyclesShapeUptoRow : OpenClaim := { program := "ytnhgdofpomioeaagreatdoor", sum := "aa8206a17a207da53c4a5f6a3dafb25115b875cf03cee3e6b9484a674e68846c", func := "probecard/probecardlaw10.CyclesShape", spec := "cyclesShape", inPlace := ["internal/bytealg.IndexByteString", "internal/bytealg.IndexString"], unfollowed := true, recurses := true, named := ["probecard/logic.fanins", "internal/strconv.uint64pow10", "math/bits.deBruijn32tab", "math/bits.deBruijn64tab", "internal/bytealg.MaxLen"], apart := false, laid := [("math/bits.deBruijn32tab", laid_math_bits_deBruijn32tab), ("math/bits.deBruijn64tab", laid_math_bits_deBruijn64tab), ("internal/strconv.uint64pow10", laid_internal_strconv_uint64pow10), ("probecard/logic.fanins", laid_probecard_logic_fanins)], narrowed := true }
def CyclesShapeUptoSaid : Prop := cyclesShapeUptoRow.holds Tryz.pinned (OpenSpec.upto cyclesShapeSpec)

/-- 'probecardlaw10.CyclesRun', WHERE WHAT IT READS IS OF BULK AT MOST 1048576: true; the input reads as it did. -/
def cyclesRunUptoRow : OpenClaim := { program := "ytnhgdofpomioeaagreatdoor", sum := "aa8206a17a207da53c4a5f6a3dafb25115b875cf03cee3e6b9484a674e68846c", func := "probecard/probecardlaw10.CyclesRun", spec := "cyclesRun", inPlace := ["internal/bytealg.IndexByteString", "internal/bytealg.IndexString"], unfollowed := true, recurses := true, named := ["probecard/logic.fanins", "internal/strconv.uint64pow10", "math/bits.deBruijn32tab", "math/bits.deBruijn64tab", "internal/bytealg.MaxLen"], apart := false, laid := [("math/bits.deBruijn32tab", laid_math_bits_deBruijn32tab), ("math/bits.deBruijn64tab", laid_math_bits_deBruijn64tab), ("internal/strconv.uint64pow10", laid_internal_strconv_uint64pow10), ("probecard/logic.fanins", laid_probecard_logic_fanins)], narrowed := true }
def CyclesRunUptoSaid : Prop := cyclesRunUptoRow.holds Tryz.pinned (OpenSpec.upto cyclesRunSpec)

/-- 'probecardlaw10.CyclesSettled', WHERE WHAT IT READS IS OF BULK AT MOST 1048576: true; the input reads as it did. -/
def cyclesSettledUptoRow : OpenClaim := { program := "ytnhgdofpomioeaagreatdoor", sum := "aa8206a17a207da53c4a5f6a3dafb25115b875cf03cee3e6b9484a674e68846c", func := "probecard/probecardlaw10.CyclesSettled", spec := "cyclesSettled", inPlace := ["internal/bytealg.IndexByteString", "internal/bytealg.IndexString"], unfollowed := true, recurses := true, named := ["probecard/logic.fanins", "internal/strconv.uint64pow10", "math/bits.deBruijn32tab", "math/bits.deBruijn64tab", "internal/bytealg.MaxLen"], apart := false, laid := [("math/bits.deBruijn32tab", laid_math_bits_deBruijn32tab), ("math/bits.deBruijn64tab", laid_math_bits_deBruijn64tab), ("internal/strconv.uint64pow10", laid_internal_strconv_uint64pow10), ("probecard/logic.fanins", laid_probecard_logic_fanins)], narrowed := true }
def CyclesSettledUptoSaid : Prop := cyclesSettledUptoRow.holds Tryz.pinned (OpenSpec.upto cyclesSettledSpec)

/-- 'probecardlaw10.CyclesUnroll', WHERE WHAT IT READS IS OF BULK AT MOST 1048576: true; the input reads as it did. -/
def cyclesUnrollUptoRow : OpenClaim := { program := "ytnhgdofpomioeaagreatdoor", sum := "aa8206a17a207da53c4a5f6a3dafb25115b875cf03cee3e6b9484a674e68846c", func := "probecard/probecardlaw10.CyclesUnroll", spec := "cyclesUnroll", inPlace := ["internal/bytealg.IndexByteString", "internal/bytealg.IndexString"], unfollowed := true, recurses := true, named := ["probecard/logic.fanins", "internal/strconv.uint64pow10", "math/bits.deBruijn32tab", "math/bits.deBruijn64tab", "internal/bytealg.MaxLen"], apart := false, laid := [("math/bits.deBruijn32tab", laid_math_bits_deBruijn32tab), ("math/bits.deBruijn64tab", laid_math_bits_deBruijn64tab), ("internal/strconv.uint64pow10", laid_internal_strconv_uint64pow10), ("probecard/logic.fanins", laid_probecard_logic_fanins)], narrowed := true }
def CyclesUnrollUptoSaid : Prop := cyclesUnrollUptoRow.holds Tryz.pinned (OpenSpec.upto cyclesUnrollSpec)

/-- 'probecardlaw11.RewritesSame', WHERE WHAT IT READS IS OF BULK AT MOST 1048576: true; the input reads as it did. -/
def rewritesSameUptoRow : OpenClaim := { program := "ytnhgdofpomioeaagreatdoor", sum := "aa8206a17a207da53c4a5f6a3dafb25115b875cf03cee3e6b9484a674e68846c", func := "probecard/probecardlaw11.RewritesSame", spec := "rewritesSame", inPlace := ["internal/bytealg.IndexByteString", "internal/bytealg.IndexString", "internal/abi.NoEscape"], unfollowed := true, recurses := true, named := ["probecard/logic.fanins", "internal/strconv.uint64pow10", "math/bits.deBruijn32tab", "math/bits.deBruijn64tab", "internal/bytealg.MaxLen"], apart := false, laid := [("math/bits.deBruijn32tab", laid_math_bits_deBruijn32tab), ("math/bits.deBruijn64tab", laid_math_bits_deBruijn64tab), ("internal/strconv.uint64pow10", laid_internal_strconv_uint64pow10), ("probecard/logic.fanins", laid_probecard_logic_fanins)], narrowed := true }
def RewritesSameUptoSaid : Prop := rewritesSameUptoRow.holds Tryz.pinned (OpenSpec.upto rewritesSameSpec)

/-- 'probecardlaw11.RewritesConstants', WHERE WHAT IT READS IS OF BULK AT MOST 1048576: true; the input reads as it did. -/
def rewritesConstantsUptoRow : OpenClaim := { program := "ytnhgdofpomioeaagreatdoor", sum := "aa8206a17a207da53c4a5f6a3dafb25115b875cf03cee3e6b9484a674e68846c", func := "probecard/probecardlaw11.RewritesConstants", spec := "rewritesConstants", inPlace := ["internal/bytealg.IndexByteString", "internal/bytealg.IndexString", "internal/abi.NoEscape"], unfollowed := true, recurses := true, named := ["probecard/logic.fanins", "internal/strconv.uint64pow10", "math/bits.deBruijn32tab", "math/bits.deBruijn64tab", "internal/bytealg.MaxLen"], apart := false, laid := [("math/bits.deBruijn32tab", laid_math_bits_deBruijn32tab), ("math/bits.deBruijn64tab", laid_math_bits_deBruijn64tab), ("internal/strconv.uint64pow10", laid_internal_strconv_uint64pow10), ("probecard/logic.fanins", laid_probecard_logic_fanins)], narrowed := true }
def RewritesConstantsUptoSaid : Prop := rewritesConstantsUptoRow.holds Tryz.pinned (OpenSpec.upto rewritesConstantsSpec)

/-- 'probecardlaw11.RewritesBuffers', WHERE WHAT IT READS IS OF BULK AT MOST 1048576: true; the input reads as it did. -/
def rewritesBuffersUptoRow : OpenClaim := { program := "ytnhgdofpomioeaagreatdoor", sum := "aa8206a17a207da53c4a5f6a3dafb25115b875cf03cee3e6b9484a674e68846c", func := "probecard/probecardlaw11.RewritesBuffers", spec := "rewritesBuffers", inPlace := ["internal/bytealg.IndexByteString", "internal/bytealg.IndexString", "internal/abi.NoEscape"], unfollowed := true, recurses := true, named := ["probecard/logic.fanins", "internal/strconv.uint64pow10", "math/bits.deBruijn32tab", "math/bits.deBruijn64tab", "internal/bytealg.MaxLen"], apart := false, laid := [("math/bits.deBruijn32tab", laid_math_bits_deBruijn32tab), ("math/bits.deBruijn64tab", laid_math_bits_deBruijn64tab), ("internal/strconv.uint64pow10", laid_internal_strconv_uint64pow10), ("probecard/logic.fanins", laid_probecard_logic_fanins)], narrowed := true }
def RewritesBuffersUptoSaid : Prop := rewritesBuffersUptoRow.holds Tryz.pinned (OpenSpec.upto rewritesBuffersSpec)

/-- 'probecardlaw11.RewritesMerge', WHERE WHAT IT READS IS OF BULK AT MOST 1048576: true; the input reads as it did. -/
def rewritesMergeUptoRow : OpenClaim := { program := "ytnhgdofpomioeaagreatdoor", sum := "aa8206a17a207da53c4a5f6a3dafb25115b875cf03cee3e6b9484a674e68846c", func := "probecard/probecardlaw11.RewritesMerge", spec := "rewritesMerge", inPlace := ["internal/bytealg.IndexByteString", "internal/bytealg.IndexString", "internal/abi.NoEscape"], unfollowed := true, recurses := true, named := ["probecard/logic.fanins", "internal/strconv.uint64pow10", "math/bits.deBruijn32tab", "math/bits.deBruijn64tab", "internal/bytealg.MaxLen"], apart := false, laid := [("math/bits.deBruijn32tab", laid_math_bits_deBruijn32tab), ("math/bits.deBruijn64tab", laid_math_bits_deBruijn64tab), ("internal/strconv.uint64pow10", laid_internal_strconv_uint64pow10), ("probecard/logic.fanins", laid_probecard_logic_fanins)], narrowed := true }
def RewritesMergeUptoSaid : Prop := rewritesMergeUptoRow.holds Tryz.pinned (OpenSpec.upto rewritesMergeSpec)

/-- 'probecardlaw11.RewritesSweep', WHERE WHAT IT READS IS OF BULK AT MOST 1048576: true; the input reads as it did. -/
def rewritesSweepUptoRow : OpenClaim := { program := "ytnhgdofpomioeaagreatdoor", sum := "aa8206a17a207da53c4a5f6a3dafb25115b875cf03cee3e6b9484a674e68846c", func := "probecard/probecardlaw11.RewritesSweep", spec := "rewritesSweep", inPlace := ["internal/bytealg.IndexByteString", "internal/bytealg.IndexString", "internal/abi.NoEscape"], unfollowed := true, recurses := true, named := ["probecard/logic.fanins", "internal/strconv.uint64pow10", "math/bits.deBruijn32tab", "math/bits.deBruijn64tab", "internal/bytealg.MaxLen"], apart := false, laid := [("math/bits.deBruijn32tab", laid_math_bits_deBruijn32tab), ("math/bits.deBruijn64tab", laid_math_bits_deBruijn64tab), ("internal/strconv.uint64pow10", laid_internal_strconv_uint64pow10), ("probecard/logic.fanins", laid_probecard_logic_fanins)], narrowed := true }
def RewritesSweepUptoSaid : Prop := rewritesSweepUptoRow.holds Tryz.pinned (OpenSpec.upto rewritesSweepSpec)

/-- 'probecardlaw11.RewritesSimplify', WHERE WHAT IT READS IS OF BULK AT MOST 1048576: true; the input reads as it did. -/
def rewritesSimplifyUptoRow : OpenClaim := { program := "ytnhgdofpomioeaagreatdoor", sum := "aa8206a17a207da53c4a5f6a3dafb25115b875cf03cee3e6b9484a674e68846c", func := "probecard/probecardlaw11.RewritesSimplify", spec := "rewritesSimplify", inPlace := ["internal/bytealg.IndexByteString", "internal/bytealg.IndexString", "internal/abi.NoEscape"], unfollowed := true, recurses := true, named := ["probecard/logic.fanins", "internal/strconv.uint64pow10", "math/bits.deBruijn32tab", "math/bits.deBruijn64tab", "internal/bytealg.MaxLen"], apart := false, laid := [("math/bits.deBruijn32tab", laid_math_bits_deBruijn32tab), ("math/bits.deBruijn64tab", laid_math_bits_deBruijn64tab), ("internal/strconv.uint64pow10", laid_internal_strconv_uint64pow10), ("probecard/logic.fanins", laid_probecard_logic_fanins)], narrowed := true }
def RewritesSimplifyUptoSaid : Prop := rewritesSimplifyUptoRow.holds Tryz.pinned (OpenSpec.upto rewritesSimplifySpec)

/-- 'probecardlaw11.RewritesEqual', WHERE WHAT IT READS IS OF BULK AT MOST 1048576: true; the input reads as it did. -/
def rewritesEqualUptoRow : OpenClaim := { program := "ytnhgdofpomioeaagreatdoor", sum := "aa8206a17a207da53c4a5f6a3dafb25115b875cf03cee3e6b9484a674e68846c", func := "probecard/probecardlaw11.RewritesEqual", spec := "rewritesEqual", inPlace := ["internal/bytealg.IndexByteString", "internal/bytealg.IndexString", "internal/abi.NoEscape"], unfollowed := true, recurses := true, named := ["probecard/logic.fanins", "internal/strconv.uint64pow10", "math/bits.deBruijn32tab", "math/bits.deBruijn64tab", "internal/bytealg.MaxLen"], apart := false, laid := [("math/bits.deBruijn32tab", laid_math_bits_deBruijn32tab), ("math/bits.deBruijn64tab", laid_math_bits_deBruijn64tab), ("internal/strconv.uint64pow10", laid_internal_strconv_uint64pow10), ("probecard/logic.fanins", laid_probecard_logic_fanins)], narrowed := true }
def RewritesEqualUptoSaid : Prop := rewritesEqualUptoRow.holds Tryz.pinned (OpenSpec.upto rewritesEqualSpec)

/-- 'probecardlaw11.RewritesErrors', WHERE WHAT IT READS IS OF BULK AT MOST 1048576: true; the input reads as it did. -/
def rewritesErrorsUptoRow : OpenClaim := { program := "ytnhgdofpomioeaagreatdoor", sum := "aa8206a17a207da53c4a5f6a3dafb25115b875cf03cee3e6b9484a674e68846c", func := "probecard/probecardlaw11.RewritesErrors", spec := "rewritesErrors", inPlace := ["internal/bytealg.IndexByteString", "internal/bytealg.IndexString", "internal/abi.NoEscape"], unfollowed := true, recurses := true, named := ["probecard/logic.fanins", "internal/strconv.uint64pow10", "math/bits.deBruijn32tab", "math/bits.deBruijn64tab", "internal/bytealg.MaxLen"], apart := false, laid := [("math/bits.deBruijn32tab", laid_math_bits_deBruijn32tab), ("math/bits.deBruijn64tab", laid_math_bits_deBruijn64tab), ("internal/strconv.uint64pow10", laid_internal_strconv_uint64pow10), ("probecard/logic.fanins", laid_probecard_logic_fanins)], narrowed := true }
def RewritesErrorsUptoSaid : Prop := rewritesErrorsUptoRow.holds Tryz.pinned (OpenSpec.upto rewritesErrorsSpec)

/-- 'probecardlaw11.RewritesMemories', WHERE WHAT IT READS IS OF BULK AT MOST 1048576: true; the input reads as it did. -/
def rewritesMemoriesUptoRow : OpenClaim := { program := "ytnhgdofpomioeaagreatdoor", sum := "aa8206a17a207da53c4a5f6a3dafb25115b875cf03cee3e6b9484a674e68846c", func := "probecard/probecardlaw11.RewritesMemories", spec := "rewritesMemories", inPlace := ["internal/bytealg.IndexByteString", "internal/bytealg.IndexString", "internal/abi.NoEscape"], unfollowed := true, recurses := true, named := ["probecard/logic.fanins", "internal/strconv.uint64pow10", "math/bits.deBruijn32tab", "math/bits.deBruijn64tab", "internal/bytealg.MaxLen"], apart := false, laid := [("math/bits.deBruijn32tab", laid_math_bits_deBruijn32tab), ("math/bits.deBruijn64tab", laid_math_bits_deBruijn64tab), ("internal/strconv.uint64pow10", laid_internal_strconv_uint64pow10), ("probecard/logic.fanins", laid_probecard_logic_fanins)], narrowed := true }
def RewritesMemoriesUptoSaid : Prop := rewritesMemoriesUptoRow.holds Tryz.pinned (OpenSpec.upto rewritesMemoriesSpec)

end Rows
end Go.Proofs.YtnhgdofpomioeaaGreatDoor
