/-
  NARROWER THAN 'FOR EVERY INPUT', by the rows' own cells (each row's printed sentence says how): MathEvals: laid · MathBack: laid · MathValues: laid · DagChecks: laid · DagAhead: laid · DagNeeds: laid · DagCircle: laid · EvalNeeds: laid · EvalThreshold: laid · EvalLast: laid.
  DERIVED. THE GIVEN ROWS OF THIS SEAT. 10 by the template 'for every input the law returns true; each argument reads behind the call as it read before'; 0 by the template 'total and deterministic' (their statements: YtomkgfdigldhcaaGreatDoorTotals.lean).
  GIVEN WITH THE SEED: the statements are not yours to turn. If you find one false, say at which input.
  Laid BY PROGRAM, IN A SANDBOX (cutbox-rows.mjs): the forced cells as the released guide's own fill.sh prints them over the translation c4d93c653868b213… (all of the seat's roots in one cut). By AI agents, Wed Nov 11 2026. No macro, syntax, notation, axiom, sorry.
-/
import Derived.Test.YtomkgfdigldhcaaGreatDoorChecked
import GoSem.PinnedTables
import GoSem.Claim
import GoSem.ClaimJoined
import GoSem.ClaimMapViews
import Derived.JoinedTies
import Derived.KernelRfl
namespace Go.Proofs.YtomkgfdigldhcaaGreatDoor
/- THE CELL 'sum', in the pinned program and in every row, IS THE sha256 OF THE DUMP (.gsa) THAT YtomkgfdigldhcaaGreatDoorProg.lean LOADS. Nothing in Lean hashes anything: it is a label: what it is worth is what the hold of that sum in a sandbox is worth. -/
noncomputable def Tryz.pinned : Pinned := { name := "ytomkgfdigldhcaagreatdoor", sum := "c4d93c653868b2139f04e1678aee95c1be808c6647e5ed57d5efb51b947f93f8", checked := Tryz.checked }
namespace Rows
def none {H : Type} : Left H := { results := [], args := [] }

/- WHAT THE LISTED PACKAGE-LEVEL VARIABLES READ AS WHEN THE CALL BEGINS. Each datum BY PROGRAM (the guide's laid-datum.mjs) off the statement by which the dump's own 'gosem.cut.vars' lays the variable. In a bare row this is a premise. The card (YtomkgfdigldhcaaGreatDoorCards.lean) ties it to the program's text. -/
def laid_math_bits_deBruijn32tab {H : Type} : DataW H := .agg [.lit (.int .u8 0), .lit (.int .u8 1), .lit (.int .u8 28), .lit (.int .u8 2), .lit (.int .u8 29), .lit (.int .u8 14), .lit (.int .u8 24), .lit (.int .u8 3), .lit (.int .u8 30), .lit (.int .u8 22), .lit (.int .u8 20), .lit (.int .u8 15), .lit (.int .u8 25), .lit (.int .u8 17), .lit (.int .u8 4), .lit (.int .u8 8), .lit (.int .u8 31), .lit (.int .u8 27), .lit (.int .u8 13), .lit (.int .u8 23), .lit (.int .u8 21), .lit (.int .u8 19), .lit (.int .u8 16), .lit (.int .u8 7), .lit (.int .u8 26), .lit (.int .u8 12), .lit (.int .u8 18), .lit (.int .u8 6), .lit (.int .u8 11), .lit (.int .u8 5), .lit (.int .u8 10), .lit (.int .u8 9)]
def laid_math_bits_deBruijn64tab {H : Type} : DataW H := .agg [.lit (.int .u8 0), .lit (.int .u8 1), .lit (.int .u8 56), .lit (.int .u8 2), .lit (.int .u8 57), .lit (.int .u8 49), .lit (.int .u8 28), .lit (.int .u8 3), .lit (.int .u8 61), .lit (.int .u8 58), .lit (.int .u8 42), .lit (.int .u8 50), .lit (.int .u8 38), .lit (.int .u8 29), .lit (.int .u8 17), .lit (.int .u8 4), .lit (.int .u8 62), .lit (.int .u8 47), .lit (.int .u8 59), .lit (.int .u8 36), .lit (.int .u8 45), .lit (.int .u8 43), .lit (.int .u8 51), .lit (.int .u8 22), .lit (.int .u8 53), .lit (.int .u8 39), .lit (.int .u8 33), .lit (.int .u8 30), .lit (.int .u8 24), .lit (.int .u8 18), .lit (.int .u8 12), .lit (.int .u8 5), .lit (.int .u8 63), .lit (.int .u8 55), .lit (.int .u8 48), .lit (.int .u8 27), .lit (.int .u8 60), .lit (.int .u8 41), .lit (.int .u8 37), .lit (.int .u8 16), .lit (.int .u8 46), .lit (.int .u8 35), .lit (.int .u8 44), .lit (.int .u8 21), .lit (.int .u8 52), .lit (.int .u8 32), .lit (.int .u8 23), .lit (.int .u8 11), .lit (.int .u8 54), .lit (.int .u8 26), .lit (.int .u8 40), .lit (.int .u8 15), .lit (.int .u8 34), .lit (.int .u8 20), .lit (.int .u8 31), .lit (.int .u8 10), .lit (.int .u8 25), .lit (.int .u8 14), .lit (.int .u8 19), .lit (.int .u8 9), .lit (.int .u8 13), .lit (.int .u8 8), .lit (.int .u8 7), .lit (.int .u8 6)]
def laid_internal_strconv_uint64pow10 {H : Type} : DataW H := .agg [.lit (.int .u64 1), .lit (.int .u64 10), .lit (.int .u64 100), .lit (.int .u64 1000), .lit (.int .u64 10000), .lit (.int .u64 100000), .lit (.int .u64 1000000), .lit (.int .u64 10000000), .lit (.int .u64 100000000), .lit (.int .u64 1000000000), .lit (.int .u64 10000000000), .lit (.int .u64 100000000000), .lit (.int .u64 1000000000000), .lit (.int .u64 10000000000000), .lit (.int .u64 100000000000000), .lit (.int .u64 1000000000000000), .lit (.int .u64 10000000000000000), .lit (.int .u64 100000000000000000), .lit (.int .u64 1000000000000000000), .lit (.int .u64 10000000000000000000)]
def laid_unicode_utf8_acceptRanges {H : Type} : DataW H := .agg [.agg [.lit (.int .u8 128), .lit (.int .u8 191)], .agg [.lit (.int .u8 160), .lit (.int .u8 191)], .agg [.lit (.int .u8 128), .lit (.int .u8 159)], .agg [.lit (.int .u8 144), .lit (.int .u8 191)], .agg [.lit (.int .u8 128), .lit (.int .u8 143)], .agg [.lit (.int .u8 0), .lit (.int .u8 0)], .agg [.lit (.int .u8 0), .lit (.int .u8 0)], .agg [.lit (.int .u8 0), .lit (.int .u8 0)], .agg [.lit (.int .u8 0), .lit (.int .u8 0)], .agg [.lit (.int .u8 0), .lit (.int .u8 0)], .agg [.lit (.int .u8 0), .lit (.int .u8 0)], .agg [.lit (.int .u8 0), .lit (.int .u8 0)], .agg [.lit (.int .u8 0), .lit (.int .u8 0)], .agg [.lit (.int .u8 0), .lit (.int .u8 0)], .agg [.lit (.int .u8 0), .lit (.int .u8 0)], .agg [.lit (.int .u8 0), .lit (.int .u8 0)]]
def laid_strconv_ErrRange {H : Type} : DataW H := .iface "*errors.errorString" (.ptr (.agg [.lit (.string [118, 97, 108, 117, 101, 32, 111, 117, 116, 32, 111, 102, 32, 114, 97, 110, 103, 101])]))
def laid_strconv_ErrSyntax {H : Type} : DataW H := .iface "*errors.errorString" (.ptr (.agg [.lit (.string [105, 110, 118, 97, 108, 105, 100, 32, 115, 121, 110, 116, 97, 120])]))
def laid_klaxon_math_levels {H : Type} : DataW H := .agg [.slice [.lit (.string [124, 124])] [], .slice [.lit (.string [38, 38])] [], .slice [.lit (.string [61, 61]), .lit (.string [33, 61]), .lit (.string [60, 61]), .lit (.string [62, 61]), .lit (.string [60]), .lit (.string [62])] [], .slice [.lit (.string [43]), .lit (.string [45])] [], .slice [.lit (.string [42]), .lit (.string [47])] []]
def laid_klaxon_math_signs {H : Type} : DataW H := .agg [.lit (.string [124, 124]), .lit (.string [38, 38]), .lit (.string [61, 61]), .lit (.string [33, 61]), .lit (.string [60, 61]), .lit (.string [62, 61]), .lit (.string [60]), .lit (.string [62]), .lit (.string [43]), .lit (.string [45]), .lit (.string [42]), .lit (.string [47]), .lit (.string [33]), .lit (.string [40]), .lit (.string [41])]
/-- One of Go's own tables, pinned by name: the form's constant. -/
def laid_unicode_utf8_first : DataW Unit := Go.Pinned.utf8First

/-- 'klaxonlaw11.MathEvals': WHATEVER THE INPUT: true; the input reads as it did. -/
def mathEvalsSpec : ChangeSpec := { name := "mathEvals", fn := fun _ => fun
  | [d1, d2] => { results := [.lit (.bool true)], args := [d1, d2] }
  | _ => none }
def mathEvalsRow : OpenClaim := { program := "ytomkgfdigldhcaagreatdoor", sum := "c4d93c653868b2139f04e1678aee95c1be808c6647e5ed57d5efb51b947f93f8", func := "klaxon/klaxonlaw11.MathEvals", spec := "mathEvals", inPlace := ["internal/bytealg.IndexByteString", "internal/bytealg.IndexString", "internal/abi.NoEscape", "internal/bytealg.MakeNoZero", "internal/bytealg.abigen_runtime_cmpstring"], unfollowed := true, recurses := true, named := ["klaxon/math.levels", "klaxon/math.signs", "internal/strconv.uint64pow10", "math/bits.deBruijn32tab", "math/bits.deBruijn64tab", "unicode/utf8.first", "unicode/utf8.acceptRanges", "internal/bytealg.MaxLen", "strconv.ErrSyntax", "strconv.ErrRange", "math/bits.divideError", "math/bits.overflowError"], apart := false, laid := [("math/bits.deBruijn32tab", laid_math_bits_deBruijn32tab), ("math/bits.deBruijn64tab", laid_math_bits_deBruijn64tab), ("internal/strconv.uint64pow10", laid_internal_strconv_uint64pow10), ("unicode/utf8.acceptRanges", laid_unicode_utf8_acceptRanges), ("strconv.ErrRange", laid_strconv_ErrRange), ("strconv.ErrSyntax", laid_strconv_ErrSyntax), ("klaxon/math.levels", laid_klaxon_math_levels), ("klaxon/math.signs", laid_klaxon_math_signs), ("unicode/utf8.first", laid_unicode_utf8_first)] }
def MathEvalsSaid : Prop := mathEvalsRow.holds Tryz.pinned (OpenSpec.ofChange mathEvalsSpec)

/-- ITS FALSE NEIGHBOUR: 'it returns false'. Refute it at one input. -/
def mathEvalsWrong : ChangeSpec := { name := "mathEvals", fn := fun _ => fun
  | [d1, d2] => { results := [.lit (.bool false)], args := [d1, d2] }
  | _ => none }
def MathEvalsWrongFalsely : Prop := mathEvalsRow.holds Tryz.pinned (OpenSpec.ofChange mathEvalsWrong)

/-- 'klaxonlaw11.MathBack': WHATEVER THE INPUT: true; the input reads as it did. -/
def mathBackSpec : ChangeSpec := { name := "mathBack", fn := fun _ => fun
  | [d] => { results := [.lit (.bool true)], args := [d] }
  | _ => none }
def mathBackRow : OpenClaim := { program := "ytomkgfdigldhcaagreatdoor", sum := "c4d93c653868b2139f04e1678aee95c1be808c6647e5ed57d5efb51b947f93f8", func := "klaxon/klaxonlaw11.MathBack", spec := "mathBack", inPlace := ["internal/bytealg.IndexByteString", "internal/bytealg.IndexString", "internal/abi.NoEscape", "internal/bytealg.MakeNoZero", "internal/bytealg.abigen_runtime_cmpstring"], unfollowed := true, recurses := true, named := ["klaxon/math.levels", "klaxon/math.signs", "internal/strconv.uint64pow10", "math/bits.deBruijn32tab", "math/bits.deBruijn64tab", "unicode/utf8.first", "unicode/utf8.acceptRanges", "internal/bytealg.MaxLen", "strconv.ErrSyntax", "strconv.ErrRange", "math/bits.divideError", "math/bits.overflowError"], apart := false, laid := [("math/bits.deBruijn32tab", laid_math_bits_deBruijn32tab), ("math/bits.deBruijn64tab", laid_math_bits_deBruijn64tab), ("internal/strconv.uint64pow10", laid_internal_strconv_uint64pow10), ("unicode/utf8.acceptRanges", laid_unicode_utf8_acceptRanges), ("strconv.ErrRange", laid_strconv_ErrRange), ("strconv.ErrSyntax", laid_strconv_ErrSyntax), ("klaxon/math.levels", laid_klaxon_math_levels), ("klaxon/math.signs", laid_klaxon_math_signs), ("unicode/utf8.first", laid_unicode_utf8_first)] }
def MathBackSaid : Prop := mathBackRow.holds Tryz.pinned (OpenSpec.ofChange mathBackSpec)

/-- ITS FALSE NEIGHBOUR: 'it returns false'. Refute it at one input. -/
def mathBackWrong : ChangeSpec := { name := "mathBack", fn := fun _ => fun
  | [d] => { results := [.lit (.bool false)], args := [d] }
  | _ => none }
def MathBackWrongFalsely : Prop := mathBackRow.holds Tryz.pinned (OpenSpec.ofChange mathBackWrong)

/-- 'klaxonlaw11.MathValues': WHATEVER THE INPUT: true; the input reads as it did. -/
def mathValuesSpec : ChangeSpec := { name := "mathValues", fn := fun _ => fun
  | [d1, d2] => { results := [.lit (.bool true)], args := [d1, d2] }
  | _ => none }
def mathValuesRow : OpenClaim := { program := "ytomkgfdigldhcaagreatdoor", sum := "c4d93c653868b2139f04e1678aee95c1be808c6647e5ed57d5efb51b947f93f8", func := "klaxon/klaxonlaw11.MathValues", spec := "mathValues", inPlace := ["internal/bytealg.IndexByteString", "internal/bytealg.IndexString", "internal/abi.NoEscape", "internal/bytealg.MakeNoZero", "internal/bytealg.abigen_runtime_cmpstring"], unfollowed := true, recurses := true, named := ["klaxon/math.levels", "klaxon/math.signs", "internal/strconv.uint64pow10", "math/bits.deBruijn32tab", "math/bits.deBruijn64tab", "unicode/utf8.first", "unicode/utf8.acceptRanges", "internal/bytealg.MaxLen", "strconv.ErrSyntax", "strconv.ErrRange", "math/bits.divideError", "math/bits.overflowError"], apart := false, laid := [("math/bits.deBruijn32tab", laid_math_bits_deBruijn32tab), ("math/bits.deBruijn64tab", laid_math_bits_deBruijn64tab), ("internal/strconv.uint64pow10", laid_internal_strconv_uint64pow10), ("unicode/utf8.acceptRanges", laid_unicode_utf8_acceptRanges), ("strconv.ErrRange", laid_strconv_ErrRange), ("strconv.ErrSyntax", laid_strconv_ErrSyntax), ("klaxon/math.levels", laid_klaxon_math_levels), ("klaxon/math.signs", laid_klaxon_math_signs), ("unicode/utf8.first", laid_unicode_utf8_first)] }
def MathValuesSaid : Prop := mathValuesRow.holds Tryz.pinned (OpenSpec.ofChange mathValuesSpec)

/-- ITS FALSE NEIGHBOUR: 'it returns false'. Refute it at one input. -/
def mathValuesWrong : ChangeSpec := { name := "mathValues", fn := fun _ => fun
  | [d1, d2] => { results := [.lit (.bool false)], args := [d1, d2] }
  | _ => none }
def MathValuesWrongFalsely : Prop := mathValuesRow.holds Tryz.pinned (OpenSpec.ofChange mathValuesWrong)

/-- 'klaxonlaw12.DagChecks': WHATEVER THE INPUT: true; the input reads as it did. -/
def dagChecksSpec : ChangeSpec := { name := "dagChecks", fn := fun _ => fun
  | [d1, d2] => { results := [.lit (.bool true)], args := [d1, d2] }
  | _ => none }
def dagChecksRow : OpenClaim := { program := "ytomkgfdigldhcaagreatdoor", sum := "c4d93c653868b2139f04e1678aee95c1be808c6647e5ed57d5efb51b947f93f8", func := "klaxon/klaxonlaw12.DagChecks", spec := "dagChecks", inPlace := ["internal/bytealg.IndexByteString", "internal/bytealg.IndexString", "internal/abi.NoEscape", "internal/bytealg.MakeNoZero"], unfollowed := true, recurses := true, named := ["klaxon/math.levels", "klaxon/math.signs", "internal/strconv.uint64pow10", "math/bits.deBruijn32tab", "math/bits.deBruijn64tab", "unicode/utf8.first", "unicode/utf8.acceptRanges", "internal/bytealg.MaxLen", "strconv.ErrSyntax", "strconv.ErrRange", "math/bits.divideError", "math/bits.overflowError"], apart := false, laid := [("math/bits.deBruijn32tab", laid_math_bits_deBruijn32tab), ("math/bits.deBruijn64tab", laid_math_bits_deBruijn64tab), ("internal/strconv.uint64pow10", laid_internal_strconv_uint64pow10), ("unicode/utf8.acceptRanges", laid_unicode_utf8_acceptRanges), ("strconv.ErrRange", laid_strconv_ErrRange), ("strconv.ErrSyntax", laid_strconv_ErrSyntax), ("klaxon/math.levels", laid_klaxon_math_levels), ("klaxon/math.signs", laid_klaxon_math_signs), ("unicode/utf8.first", laid_unicode_utf8_first)] }
def DagChecksSaid : Prop := dagChecksRow.holds Tryz.pinned (OpenSpec.ofChange dagChecksSpec)

/-- ITS FALSE NEIGHBOUR: 'it returns false'. Refute it at one input. -/
def dagChecksWrong : ChangeSpec := { name := "dagChecks", fn := fun _ => fun
  | [d1, d2] => { results := [.lit (.bool false)], args := [d1, d2] }
  | _ => none }
def DagChecksWrongFalsely : Prop := dagChecksRow.holds Tryz.pinned (OpenSpec.ofChange dagChecksWrong)

/-- 'klaxonlaw12.DagAhead': WHATEVER THE INPUT: true; the input reads as it did. -/
def dagAheadSpec : ChangeSpec := { name := "dagAhead", fn := fun _ => fun
  | [d1, d2] => { results := [.lit (.bool true)], args := [d1, d2] }
  | _ => none }
def dagAheadRow : OpenClaim := { program := "ytomkgfdigldhcaagreatdoor", sum := "c4d93c653868b2139f04e1678aee95c1be808c6647e5ed57d5efb51b947f93f8", func := "klaxon/klaxonlaw12.DagAhead", spec := "dagAhead", inPlace := ["internal/bytealg.IndexByteString", "internal/bytealg.IndexString", "internal/abi.NoEscape", "internal/bytealg.MakeNoZero"], unfollowed := true, recurses := true, named := ["klaxon/math.levels", "klaxon/math.signs", "internal/strconv.uint64pow10", "math/bits.deBruijn32tab", "math/bits.deBruijn64tab", "unicode/utf8.first", "unicode/utf8.acceptRanges", "internal/bytealg.MaxLen", "strconv.ErrSyntax", "strconv.ErrRange", "math/bits.divideError", "math/bits.overflowError"], apart := false, laid := [("math/bits.deBruijn32tab", laid_math_bits_deBruijn32tab), ("math/bits.deBruijn64tab", laid_math_bits_deBruijn64tab), ("internal/strconv.uint64pow10", laid_internal_strconv_uint64pow10), ("unicode/utf8.acceptRanges", laid_unicode_utf8_acceptRanges), ("strconv.ErrRange", laid_strconv_ErrRange), ("strconv.ErrSyntax", laid_strconv_ErrSyntax), ("klaxon/math.levels", laid_klaxon_math_levels), ("klaxon/math.signs", laid_klaxon_math_signs), ("unicode/utf8.first", laid_unicode_utf8_first)] }
def DagAheadSaid : Prop := dagAheadRow.holds Tryz.pinned (OpenSpec.ofChange dagAheadSpec)

/-- ITS FALSE NEIGHBOUR: 'it returns false'. Refute it at one input. -/
def dagAheadWrong : ChangeSpec := { name := "dagAhead", fn := fun _ => fun
  | [d1, d2] => { results := [.lit (.bool false)], args := [d1, d2] }
  | _ => none }
def DagAheadWrongFalsely : Prop := dagAheadRow.holds Tryz.pinned (OpenSpec.ofChange dagAheadWrong)

/-- 'klaxonlaw12.DagNeeds': WHATEVER THE INPUT: true; the input reads as it did. -/
def dagNeedsSpec : ChangeSpec := { name := "dagNeeds", fn := fun _ => fun
  | [d1, d2] => { results := [.lit (.bool true)], args := [d1, d2] }
  | _ => none }
def dagNeedsRow : OpenClaim := { program := "ytomkgfdigldhcaagreatdoor", sum := "c4d93c653868b2139f04e1678aee95c1be808c6647e5ed57d5efb51b947f93f8", func := "klaxon/klaxonlaw12.DagNeeds", spec := "dagNeeds", inPlace := ["internal/bytealg.IndexByteString", "internal/bytealg.IndexString", "internal/abi.NoEscape", "internal/bytealg.MakeNoZero"], unfollowed := true, recurses := true, named := ["math/bits.divideError", "math/bits.overflowError", "klaxon/math.levels", "klaxon/math.signs", "internal/strconv.uint64pow10", "math/bits.deBruijn32tab", "math/bits.deBruijn64tab", "unicode/utf8.first", "unicode/utf8.acceptRanges", "internal/bytealg.MaxLen", "strconv.ErrSyntax", "strconv.ErrRange"], apart := false, laid := [("math/bits.deBruijn32tab", laid_math_bits_deBruijn32tab), ("math/bits.deBruijn64tab", laid_math_bits_deBruijn64tab), ("internal/strconv.uint64pow10", laid_internal_strconv_uint64pow10), ("unicode/utf8.acceptRanges", laid_unicode_utf8_acceptRanges), ("strconv.ErrRange", laid_strconv_ErrRange), ("strconv.ErrSyntax", laid_strconv_ErrSyntax), ("klaxon/math.levels", laid_klaxon_math_levels), ("klaxon/math.signs", laid_klaxon_math_signs), ("unicode/utf8.first", laid_unicode_utf8_first)] }
def DagNeedsSaid : Prop := dagNeedsRow.holds Tryz.pinned (OpenSpec.ofChange dagNeedsSpec)

/-- ITS FALSE NEIGHBOUR: 'it returns false'. Refute it at one input. -/
def dagNeedsWrong : ChangeSpec := { name := "dagNeeds", fn := fun _ => fun
  | [d1, d2] => { results := [.lit (.bool false)], args := [d1, d2] }
  | _ => none }
def DagNeedsWrongFalsely : Prop := dagNeedsRow.holds Tryz.pinned (OpenSpec.ofChange dagNeedsWrong)

/-- 'klaxonlaw12.DagCircle': WHATEVER THE INPUT: true; the input reads as it did. -/
def dagCircleSpec : ChangeSpec := { name := "dagCircle", fn := fun _ => fun
  | [d1, d2, d3] => { results := [.lit (.bool true)], args := [d1, d2, d3] }
  | _ => none }
def dagCircleRow : OpenClaim := { program := "ytomkgfdigldhcaagreatdoor", sum := "c4d93c653868b2139f04e1678aee95c1be808c6647e5ed57d5efb51b947f93f8", func := "klaxon/klaxonlaw12.DagCircle", spec := "dagCircle", inPlace := ["internal/bytealg.IndexByteString", "internal/bytealg.IndexString", "internal/abi.NoEscape", "internal/bytealg.MakeNoZero"], unfollowed := true, recurses := true, named := ["klaxon/math.levels", "klaxon/math.signs", "internal/strconv.uint64pow10", "math/bits.deBruijn32tab", "math/bits.deBruijn64tab", "unicode/utf8.first", "unicode/utf8.acceptRanges", "internal/bytealg.MaxLen", "strconv.ErrSyntax", "strconv.ErrRange", "math/bits.divideError", "math/bits.overflowError"], apart := false, laid := [("math/bits.deBruijn32tab", laid_math_bits_deBruijn32tab), ("math/bits.deBruijn64tab", laid_math_bits_deBruijn64tab), ("internal/strconv.uint64pow10", laid_internal_strconv_uint64pow10), ("unicode/utf8.acceptRanges", laid_unicode_utf8_acceptRanges), ("strconv.ErrRange", laid_strconv_ErrRange), ("strconv.ErrSyntax", laid_strconv_ErrSyntax), ("klaxon/math.levels", laid_klaxon_math_levels), ("klaxon/math.signs", laid_klaxon_math_signs), ("unicode/utf8.first", laid_unicode_utf8_first)] }
def DagCircleSaid : Prop := dagCircleRow.holds Tryz.pinned (OpenSpec.ofChange dagCircleSpec)

/-- ITS FALSE NEIGHBOUR: 'it returns false'. Refute it at one input. -/
def dagCircleWrong : ChangeSpec := { name := "dagCircle", fn := fun _ => fun
  | [d1, d2, d3] => { results := [.lit (.bool false)], args := [d1, d2, d3] }
  | _ => none }
def DagCircleWrongFalsely : Prop := dagCircleRow.holds Tryz.pinned (OpenSpec.ofChange dagCircleWrong)

/-- 'klaxonlaw13.EvalNeeds': WHATEVER THE INPUT: true; the input reads as it did. -/
def evalNeedsSpec : ChangeSpec := { name := "evalNeeds", fn := fun _ => fun
  | [d1, d2, d3, d4] => { results := [.lit (.bool true)], args := [d1, d2, d3, d4] }
  | _ => none }
def evalNeedsRow : OpenClaim := { program := "ytomkgfdigldhcaagreatdoor", sum := "c4d93c653868b2139f04e1678aee95c1be808c6647e5ed57d5efb51b947f93f8", func := "klaxon/klaxonlaw13.EvalNeeds", spec := "evalNeeds", inPlace := ["internal/bytealg.IndexByteString", "internal/bytealg.IndexString", "internal/abi.NoEscape", "internal/bytealg.MakeNoZero", "internal/bytealg.abigen_runtime_cmpstring"], unfollowed := true, recurses := true, named := ["math/bits.divideError", "math/bits.overflowError", "klaxon/math.levels", "klaxon/math.signs", "internal/strconv.uint64pow10", "math/bits.deBruijn32tab", "math/bits.deBruijn64tab", "unicode/utf8.first", "unicode/utf8.acceptRanges", "internal/bytealg.MaxLen", "strconv.ErrSyntax", "strconv.ErrRange"], apart := false, laid := [("math/bits.deBruijn32tab", laid_math_bits_deBruijn32tab), ("math/bits.deBruijn64tab", laid_math_bits_deBruijn64tab), ("internal/strconv.uint64pow10", laid_internal_strconv_uint64pow10), ("unicode/utf8.acceptRanges", laid_unicode_utf8_acceptRanges), ("strconv.ErrRange", laid_strconv_ErrRange), ("strconv.ErrSyntax", laid_strconv_ErrSyntax), ("klaxon/math.levels", laid_klaxon_math_levels), ("klaxon/math.signs", laid_klaxon_math_signs), ("unicode/utf8.first", laid_unicode_utf8_first)] }
def EvalNeedsSaid : Prop := evalNeedsRow.holds Tryz.pinned (OpenSpec.ofChange evalNeedsSpec)

/-- ITS FALSE NEIGHBOUR: 'it returns false'. Refute it at one input. -/
def evalNeedsWrong : ChangeSpec := { name := "evalNeeds", fn := fun _ => fun
  | [d1, d2, d3, d4] => { results := [.lit (.bool false)], args := [d1, d2, d3, d4] }
  | _ => none }
def EvalNeedsWrongFalsely : Prop := evalNeedsRow.holds Tryz.pinned (OpenSpec.ofChange evalNeedsWrong)

/-- 'klaxonlaw13.EvalThreshold': WHATEVER THE INPUT: true; the input reads as it did. -/
def evalThresholdSpec : ChangeSpec := { name := "evalThreshold", fn := fun _ => fun
  | [d1, d2, d3] => { results := [.lit (.bool true)], args := [d1, d2, d3] }
  | _ => none }
def evalThresholdRow : OpenClaim := { program := "ytomkgfdigldhcaagreatdoor", sum := "c4d93c653868b2139f04e1678aee95c1be808c6647e5ed57d5efb51b947f93f8", func := "klaxon/klaxonlaw13.EvalThreshold", spec := "evalThreshold", inPlace := ["internal/bytealg.IndexByteString", "internal/bytealg.IndexString", "internal/abi.NoEscape", "internal/bytealg.MakeNoZero", "internal/bytealg.abigen_runtime_cmpstring"], unfollowed := true, recurses := true, named := ["math/bits.divideError", "math/bits.overflowError", "klaxon/math.levels", "klaxon/math.signs", "internal/strconv.uint64pow10", "math/bits.deBruijn32tab", "math/bits.deBruijn64tab", "unicode/utf8.first", "unicode/utf8.acceptRanges", "internal/bytealg.MaxLen", "strconv.ErrSyntax", "strconv.ErrRange"], apart := false, laid := [("math/bits.deBruijn32tab", laid_math_bits_deBruijn32tab), ("math/bits.deBruijn64tab", laid_math_bits_deBruijn64tab), ("internal/strconv.uint64pow10", laid_internal_strconv_uint64pow10), ("unicode/utf8.acceptRanges", laid_unicode_utf8_acceptRanges), ("strconv.ErrRange", laid_strconv_ErrRange), ("strconv.ErrSyntax", laid_strconv_ErrSyntax), ("klaxon/math.levels", laid_klaxon_math_levels), ("klaxon/math.signs", laid_klaxon_math_signs), ("unicode/utf8.first", laid_unicode_utf8_first)] }
def EvalThresholdSaid : Prop := evalThresholdRow.holds Tryz.pinned (OpenSpec.ofChange evalThresholdSpec)

/-- ITS FALSE NEIGHBOUR: 'it returns false'. Refute it at one input. -/
def evalThresholdWrong : ChangeSpec := { name := "evalThreshold", fn := fun _ => fun
  | [d1, d2, d3] => { results := [.lit (.bool false)], args := [d1, d2, d3] }
  | _ => none }
def EvalThresholdWrongFalsely : Prop := evalThresholdRow.holds Tryz.pinned (OpenSpec.ofChange evalThresholdWrong)

/-- 'klaxonlaw13.EvalLast': WHATEVER THE INPUT: true; the input reads as it did. -/
def evalLastSpec : ChangeSpec := { name := "evalLast", fn := fun _ => fun
  | [d1, d2, d3, d4] => { results := [.lit (.bool true)], args := [d1, d2, d3, d4] }
  | _ => none }
def evalLastRow : OpenClaim := { program := "ytomkgfdigldhcaagreatdoor", sum := "c4d93c653868b2139f04e1678aee95c1be808c6647e5ed57d5efb51b947f93f8", func := "klaxon/klaxonlaw13.EvalLast", spec := "evalLast", inPlace := ["internal/bytealg.IndexByteString", "internal/bytealg.IndexString", "internal/abi.NoEscape", "internal/bytealg.MakeNoZero", "internal/bytealg.abigen_runtime_cmpstring"], unfollowed := true, recurses := true, named := ["math/bits.divideError", "math/bits.overflowError", "klaxon/math.levels", "klaxon/math.signs", "internal/strconv.uint64pow10", "math/bits.deBruijn32tab", "math/bits.deBruijn64tab", "unicode/utf8.first", "unicode/utf8.acceptRanges", "internal/bytealg.MaxLen", "strconv.ErrSyntax", "strconv.ErrRange"], apart := false, laid := [("math/bits.deBruijn32tab", laid_math_bits_deBruijn32tab), ("math/bits.deBruijn64tab", laid_math_bits_deBruijn64tab), ("internal/strconv.uint64pow10", laid_internal_strconv_uint64pow10), ("unicode/utf8.acceptRanges", laid_unicode_utf8_acceptRanges), ("strconv.ErrRange", laid_strconv_ErrRange), ("strconv.ErrSyntax", laid_strconv_ErrSyntax), ("klaxon/math.levels", laid_klaxon_math_levels), ("klaxon/math.signs", laid_klaxon_math_signs), ("unicode/utf8.first", laid_unicode_utf8_first)] }
def EvalLastSaid : Prop := evalLastRow.holds Tryz.pinned (OpenSpec.ofChange evalLastSpec)

/-- ITS FALSE NEIGHBOUR: 'it returns false'. Refute it at one input. -/
def evalLastWrong : ChangeSpec := { name := "evalLast", fn := fun _ => fun
  | [d1, d2, d3, d4] => { results := [.lit (.bool false)], args := [d1, d2, d3, d4] }
  | _ => none }
def EvalLastWrongFalsely : Prop := evalLastRow.holds Tryz.pinned (OpenSpec.ofChange evalLastWrong)

/- THE SECOND FORM. 'bulk': how many values and letters a reading holds, each counted each time it is reached (what is shared counts as often as it is met; a slice's spare places count too). A statement '..UptoSaid' is the law's where the arguments, and the package variables that the reading takes, are together of bulk at most 1048576: NARROWER than '..Said'. Prove '..Said' where nothing that the law and all that it calls make is longer than what came in: it says more and counts as full. Else prove '..UptoSaid'. A law counts once. -/
mutual
def uptoBulk {H : Type} : DataW H → Nat
  | .lit (.string bytes) => bytes.length + 1
  | .lit _ => 1
  | .nil => 1
  | .ptr d => uptoBulk d + 1
  | .slice elems spare => uptoBulkAll elems + uptoBulkAll spare + 1
  | .agg parts => uptoBulkAll parts + 1
  | .iface _ d => uptoBulk d + 1
  | .map entries => uptoBulkEntries entries + 1
  | .held _ => 1
def uptoBulkAll {H : Type} : List (DataW H) → Nat
  | [] => 0
  | d :: r => uptoBulk d + uptoBulkAll r
def uptoBulkEntries {H : Type} : List (Lit × DataW H) → Nat
  | [] => 0
  | x :: r => uptoBulkEntry x + uptoBulkEntries r
def uptoBulkEntry {H : Type} : Lit × DataW H → Nat
  | (.string bytes, d) => bytes.length + uptoBulk d + 1
  | (_, d) => uptoBulk d + 1
 end
def uptoSmall : (H : Type) → List (DataW H) → Bool := fun _ ds => decide (uptoBulkAll ds ≤ 1048576)
def OpenSpec.upto (s : _root_.Go.ChangeSpec) : _root_.Go.OpenSpec := { _root_.Go.OpenSpec.ofChange s with cond := some uptoSmall }

/-- 'klaxonlaw11.MathEvals', WHERE WHAT IT READS IS OF BULK AT MOST 1048576: true; the input reads as it did. -/
def mathEvalsUptoRow : OpenClaim := { program := "ytomkgfdigldhcaagreatdoor", sum := "c4d93c653868b2139f04e1678aee95c1be808c6647e5ed57d5efb51b947f93f8", func := "klaxon/klaxonlaw11.MathEvals", spec := "mathEvals", inPlace := ["internal/bytealg.IndexByteString", "internal/bytealg.IndexString", "internal/abi.NoEscape", "internal/bytealg.MakeNoZero", "internal/bytealg.abigen_runtime_cmpstring"], unfollowed := true, recurses := true, named := ["klaxon/math.levels", "klaxon/math.signs", "internal/strconv.uint64pow10", "math/bits.deBruijn32tab", "math/bits.deBruijn64tab", "unicode/utf8.first", "unicode/utf8.acceptRanges", "internal/bytealg.MaxLen", "strconv.ErrSyntax", "strconv.ErrRange", "math/bits.divideError", "math/bits.overflowError"], apart := false, laid := [("math/bits.deBruijn32tab", laid_math_bits_deBruijn32tab), ("math/bits.deBruijn64tab", laid_math_bits_deBruijn64tab), ("internal/strconv.uint64pow10", laid_internal_strconv_uint64pow10), ("unicode/utf8.acceptRanges", laid_unicode_utf8_acceptRanges), ("strconv.ErrRange", laid_strconv_ErrRange), ("strconv.ErrSyntax", laid_strconv_ErrSyntax), ("klaxon/math.levels", laid_klaxon_math_levels), ("klaxon/math.signs", laid_klaxon_math_signs), ("unicode/utf8.first", laid_unicode_utf8_first)], narrowed := true }
def MathEvalsUptoSaid : Prop := mathEvalsUptoRow.holds Tryz.pinned (OpenSpec.upto mathEvalsSpec)

/-- 'klaxonlaw11.MathBack', WHERE WHAT IT READS IS OF BULK AT MOST 1048576: true; the input reads as it did. -/
def mathBackUptoRow : OpenClaim := { program := "ytomkgfdigldhcaagreatdoor", sum := "c4d93c653868b2139f04e1678aee95c1be808c6647e5ed57d5efb51b947f93f8", func := "klaxon/klaxonlaw11.MathBack", spec := "mathBack", inPlace := ["internal/bytealg.IndexByteString", "internal/bytealg.IndexString", "internal/abi.NoEscape", "internal/bytealg.MakeNoZero", "internal/bytealg.abigen_runtime_cmpstring"], unfollowed := true, recurses := true, named := ["klaxon/math.levels", "klaxon/math.signs", "internal/strconv.uint64pow10", "math/bits.deBruijn32tab", "math/bits.deBruijn64tab", "unicode/utf8.first", "unicode/utf8.acceptRanges", "internal/bytealg.MaxLen", "strconv.ErrSyntax", "strconv.ErrRange", "math/bits.divideError", "math/bits.overflowError"], apart := false, laid := [("math/bits.deBruijn32tab", laid_math_bits_deBruijn32tab), ("math/bits.deBruijn64tab", laid_math_bits_deBruijn64tab), ("internal/strconv.uint64pow10", laid_internal_strconv_uint64pow10), ("unicode/utf8.acceptRanges", laid_unicode_utf8_acceptRanges), ("strconv.ErrRange", laid_strconv_ErrRange), ("strconv.ErrSyntax", laid_strconv_ErrSyntax), ("klaxon/math.levels", laid_klaxon_math_levels), ("klaxon/math.signs", laid_klaxon_math_signs), ("unicode/utf8.first", laid_unicode_utf8_first)], narrowed := true }
def MathBackUptoSaid : Prop := mathBackUptoRow.holds Tryz.pinned (OpenSpec.upto mathBackSpec)

/-- 'klaxonlaw11.MathValues', WHERE WHAT IT READS IS OF BULK AT MOST 1048576: true; the input reads as it did. -/
def mathValuesUptoRow : OpenClaim := { program := "ytomkgfdigldhcaagreatdoor", sum := "c4d93c653868b2139f04e1678aee95c1be808c6647e5ed57d5efb51b947f93f8", func := "klaxon/klaxonlaw11.MathValues", spec := "mathValues", inPlace := ["internal/bytealg.IndexByteString", "internal/bytealg.IndexString", "internal/abi.NoEscape", "internal/bytealg.MakeNoZero", "internal/bytealg.abigen_runtime_cmpstring"], unfollowed := true, recurses := true, named := ["klaxon/math.levels", "klaxon/math.signs", "internal/strconv.uint64pow10", "math/bits.deBruijn32tab", "math/bits.deBruijn64tab", "unicode/utf8.first", "unicode/utf8.acceptRanges", "internal/bytealg.MaxLen", "strconv.ErrSyntax", "strconv.ErrRange", "math/bits.divideError", "math/bits.overflowError"], apart := false, laid := [("math/bits.deBruijn32tab", laid_math_bits_deBruijn32tab), ("math/bits.deBruijn64tab", laid_math_bits_deBruijn64tab), ("internal/strconv.uint64pow10", laid_internal_strconv_uint64pow10), ("unicode/utf8.acceptRanges", laid_unicode_utf8_acceptRanges), ("strconv.ErrRange", laid_strconv_ErrRange), ("strconv.ErrSyntax", laid_strconv_ErrSyntax), ("klaxon/math.levels", laid_klaxon_math_levels), ("klaxon/math.signs", laid_klaxon_math_signs), ("unicode/utf8.first", laid_unicode_utf8_first)], narrowed := true }
def MathValuesUptoSaid : Prop := mathValuesUptoRow.holds Tryz.pinned (OpenSpec.upto mathValuesSpec)

/-- 'klaxonlaw12.DagChecks', WHERE WHAT IT READS IS OF BULK AT MOST 1048576: true; the input reads as it did. -/
def dagChecksUptoRow : OpenClaim := { program := "ytomkgfdigldhcaagreatdoor", sum := "c4d93c653868b2139f04e1678aee95c1be808c6647e5ed57d5efb51b947f93f8", func := "klaxon/klaxonlaw12.DagChecks", spec := "dagChecks", inPlace := ["internal/bytealg.IndexByteString", "internal/bytealg.IndexString", "internal/abi.NoEscape", "internal/bytealg.MakeNoZero"], unfollowed := true, recurses := true, named := ["klaxon/math.levels", "klaxon/math.signs", "internal/strconv.uint64pow10", "math/bits.deBruijn32tab", "math/bits.deBruijn64tab", "unicode/utf8.first", "unicode/utf8.acceptRanges", "internal/bytealg.MaxLen", "strconv.ErrSyntax", "strconv.ErrRange", "math/bits.divideError", "math/bits.overflowError"], apart := false, laid := [("math/bits.deBruijn32tab", laid_math_bits_deBruijn32tab), ("math/bits.deBruijn64tab", laid_math_bits_deBruijn64tab), ("internal/strconv.uint64pow10", laid_internal_strconv_uint64pow10), ("unicode/utf8.acceptRanges", laid_unicode_utf8_acceptRanges), ("strconv.ErrRange", laid_strconv_ErrRange), ("strconv.ErrSyntax", laid_strconv_ErrSyntax), ("klaxon/math.levels", laid_klaxon_math_levels), ("klaxon/math.signs", laid_klaxon_math_signs), ("unicode/utf8.first", laid_unicode_utf8_first)], narrowed := true }
def DagChecksUptoSaid : Prop := dagChecksUptoRow.holds Tryz.pinned (OpenSpec.upto dagChecksSpec)

/-- 'klaxonlaw12.DagAhead', WHERE WHAT IT READS IS OF BULK AT MOST 1048576: true; the input reads as it did. -/
def dagAheadUptoRow : OpenClaim := { program := "ytomkgfdigldhcaagreatdoor", sum := "c4d93c653868b2139f04e1678aee95c1be808c6647e5ed57d5efb51b947f93f8", func := "klaxon/klaxonlaw12.DagAhead", spec := "dagAhead", inPlace := ["internal/bytealg.IndexByteString", "internal/bytealg.IndexString", "internal/abi.NoEscape", "internal/bytealg.MakeNoZero"], unfollowed := true, recurses := true, named := ["klaxon/math.levels", "klaxon/math.signs", "internal/strconv.uint64pow10", "math/bits.deBruijn32tab", "math/bits.deBruijn64tab", "unicode/utf8.first", "unicode/utf8.acceptRanges", "internal/bytealg.MaxLen", "strconv.ErrSyntax", "strconv.ErrRange", "math/bits.divideError", "math/bits.overflowError"], apart := false, laid := [("math/bits.deBruijn32tab", laid_math_bits_deBruijn32tab), ("math/bits.deBruijn64tab", laid_math_bits_deBruijn64tab), ("internal/strconv.uint64pow10", laid_internal_strconv_uint64pow10), ("unicode/utf8.acceptRanges", laid_unicode_utf8_acceptRanges), ("strconv.ErrRange", laid_strconv_ErrRange), ("strconv.ErrSyntax", laid_strconv_ErrSyntax), ("klaxon/math.levels", laid_klaxon_math_levels), ("klaxon/math.signs", laid_klaxon_math_signs), ("unicode/utf8.first", laid_unicode_utf8_first)], narrowed := true }
def DagAheadUptoSaid : Prop := dagAheadUptoRow.holds Tryz.pinned (OpenSpec.upto dagAheadSpec)

/-- 'klaxonlaw12.DagNeeds', WHERE WHAT IT READS IS OF BULK AT MOST 1048576: true; the input reads as it did. -/
def dagNeedsUptoRow : OpenClaim := { program := "ytomkgfdigldhcaagreatdoor", sum := "c4d93c653868b2139f04e1678aee95c1be808c6647e5ed57d5efb51b947f93f8", func := "klaxon/klaxonlaw12.DagNeeds", spec := "dagNeeds", inPlace := ["internal/bytealg.IndexByteString", "internal/bytealg.IndexString", "internal/abi.NoEscape", "internal/bytealg.MakeNoZero"], unfollowed := true, recurses := true, named := ["math/bits.divideError", "math/bits.overflowError", "klaxon/math.levels", "klaxon/math.signs", "internal/strconv.uint64pow10", "math/bits.deBruijn32tab", "math/bits.deBruijn64tab", "unicode/utf8.first", "unicode/utf8.acceptRanges", "internal/bytealg.MaxLen", "strconv.ErrSyntax", "strconv.ErrRange"], apart := false, laid := [("math/bits.deBruijn32tab", laid_math_bits_deBruijn32tab), ("math/bits.deBruijn64tab", laid_math_bits_deBruijn64tab), ("internal/strconv.uint64pow10", laid_internal_strconv_uint64pow10), ("unicode/utf8.acceptRanges", laid_unicode_utf8_acceptRanges), ("strconv.ErrRange", laid_strconv_ErrRange), ("strconv.ErrSyntax", laid_strconv_ErrSyntax), ("klaxon/math.levels", laid_klaxon_math_levels), ("klaxon/math.signs", laid_klaxon_math_signs), ("unicode/utf8.first", laid_unicode_utf8_first)], narrowed := true }
def DagNeedsUptoSaid : Prop := dagNeedsUptoRow.holds Tryz.pinned (OpenSpec.upto dagNeedsSpec)

/-- 'klaxonlaw12.DagCircle', WHERE WHAT IT READS IS OF BULK AT MOST 1048576: true; the input reads as it did. -/
def dagCircleUptoRow : OpenClaim := { program := "ytomkgfdigldhcaagreatdoor", sum := "c4d93c653868b2139f04e1678aee95c1be808c6647e5ed57d5efb51b947f93f8", func := "klaxon/klaxonlaw12.DagCircle", spec := "dagCircle", inPlace := ["internal/bytealg.IndexByteString", "internal/bytealg.IndexString", "internal/abi.NoEscape", "internal/bytealg.MakeNoZero"], unfollowed := true, recurses := true, named := ["klaxon/math.levels", "klaxon/math.signs", "internal/strconv.uint64pow10", "math/bits.deBruijn32tab", "math/bits.deBruijn64tab", "unicode/utf8.first", "unicode/utf8.acceptRanges", "internal/bytealg.MaxLen", "strconv.ErrSyntax", "strconv.ErrRange", "math/bits.divideError", "math/bits.overflowError"], apart := false, laid := [("math/bits.deBruijn32tab", laid_math_bits_deBruijn32tab), ("math/bits.deBruijn64tab", laid_math_bits_deBruijn64tab), ("internal/strconv.uint64pow10", laid_internal_strconv_uint64pow10), ("unicode/utf8.acceptRanges", laid_unicode_utf8_acceptRanges), ("strconv.ErrRange", laid_strconv_ErrRange), ("strconv.ErrSyntax", laid_strconv_ErrSyntax), ("klaxon/math.levels", laid_klaxon_math_levels), ("klaxon/math.signs", laid_klaxon_math_signs), ("unicode/utf8.first", laid_unicode_utf8_first)], narrowed := true }
def DagCircleUptoSaid : Prop := dagCircleUptoRow.holds Tryz.pinned (OpenSpec.upto dagCircleSpec)

/-- 'klaxonlaw13.EvalNeeds', WHERE WHAT IT READS IS OF BULK AT MOST 1048576: true; the input reads as it did. -/
def evalNeedsUptoRow : OpenClaim := { program := "ytomkgfdigldhcaagreatdoor", sum := "c4d93c653868b2139f04e1678aee95c1be808c6647e5ed57d5efb51b947f93f8", func := "klaxon/klaxonlaw13.EvalNeeds", spec := "evalNeeds", inPlace := ["internal/bytealg.IndexByteString", "internal/bytealg.IndexString", "internal/abi.NoEscape", "internal/bytealg.MakeNoZero", "internal/bytealg.abigen_runtime_cmpstring"], unfollowed := true, recurses := true, named := ["math/bits.divideError", "math/bits.overflowError", "klaxon/math.levels", "klaxon/math.signs", "internal/strconv.uint64pow10", "math/bits.deBruijn32tab", "math/bits.deBruijn64tab", "unicode/utf8.first", "unicode/utf8.acceptRanges", "internal/bytealg.MaxLen", "strconv.ErrSyntax", "strconv.ErrRange"], apart := false, laid := [("math/bits.deBruijn32tab", laid_math_bits_deBruijn32tab), ("math/bits.deBruijn64tab", laid_math_bits_deBruijn64tab), ("internal/strconv.uint64pow10", laid_internal_strconv_uint64pow10), ("unicode/utf8.acceptRanges", laid_unicode_utf8_acceptRanges), ("strconv.ErrRange", laid_strconv_ErrRange), ("strconv.ErrSyntax", laid_strconv_ErrSyntax), ("klaxon/math.levels", laid_klaxon_math_levels), ("klaxon/math.signs", laid_klaxon_math_signs), ("unicode/utf8.first", laid_unicode_utf8_first)], narrowed := true }
def EvalNeedsUptoSaid : Prop := evalNeedsUptoRow.holds Tryz.pinned (OpenSpec.upto evalNeedsSpec)

/-- 'klaxonlaw13.EvalThreshold', WHERE WHAT IT READS IS OF BULK AT MOST 1048576: true; the input reads as it did. -/
def evalThresholdUptoRow : OpenClaim := { program := "ytomkgfdigldhcaagreatdoor", sum := "c4d93c653868b2139f04e1678aee95c1be808c6647e5ed57d5efb51b947f93f8", func := "klaxon/klaxonlaw13.EvalThreshold", spec := "evalThreshold", inPlace := ["internal/bytealg.IndexByteString", "internal/bytealg.IndexString", "internal/abi.NoEscape", "internal/bytealg.MakeNoZero", "internal/bytealg.abigen_runtime_cmpstring"], unfollowed := true, recurses := true, named := ["math/bits.divideError", "math/bits.overflowError", "klaxon/math.levels", "klaxon/math.signs", "internal/strconv.uint64pow10", "math/bits.deBruijn32tab", "math/bits.deBruijn64tab", "unicode/utf8.first", "unicode/utf8.acceptRanges", "internal/bytealg.MaxLen", "strconv.ErrSyntax", "strconv.ErrRange"], apart := false, laid := [("math/bits.deBruijn32tab", laid_math_bits_deBruijn32tab), ("math/bits.deBruijn64tab", laid_math_bits_deBruijn64tab), ("internal/strconv.uint64pow10", laid_internal_strconv_uint64pow10), ("unicode/utf8.acceptRanges", laid_unicode_utf8_acceptRanges), ("strconv.ErrRange", laid_strconv_ErrRange), ("strconv.ErrSyntax", laid_strconv_ErrSyntax), ("klaxon/math.levels", laid_klaxon_math_levels), ("klaxon/math.signs", laid_klaxon_math_signs), ("unicode/utf8.first", laid_unicode_utf8_first)], narrowed := true }
def EvalThresholdUptoSaid : Prop := evalThresholdUptoRow.holds Tryz.pinned (OpenSpec.upto evalThresholdSpec)

/-- 'klaxonlaw13.EvalLast', WHERE WHAT IT READS IS OF BULK AT MOST 1048576: true; the input reads as it did. -/
def evalLastUptoRow : OpenClaim := { program := "ytomkgfdigldhcaagreatdoor", sum := "c4d93c653868b2139f04e1678aee95c1be808c6647e5ed57d5efb51b947f93f8", func := "klaxon/klaxonlaw13.EvalLast", spec := "evalLast", inPlace := ["internal/bytealg.IndexByteString", "internal/bytealg.IndexString", "internal/abi.NoEscape", "internal/bytealg.MakeNoZero", "internal/bytealg.abigen_runtime_cmpstring"], unfollowed := true, recurses := true, named := ["math/bits.divideError", "math/bits.overflowError", "klaxon/math.levels", "klaxon/math.signs", "internal/strconv.uint64pow10", "math/bits.deBruijn32tab", "math/bits.deBruijn64tab", "unicode/utf8.first", "unicode/utf8.acceptRanges", "internal/bytealg.MaxLen", "strconv.ErrSyntax", "strconv.ErrRange"], apart := false, laid := [("math/bits.deBruijn32tab", laid_math_bits_deBruijn32tab), ("math/bits.deBruijn64tab", laid_math_bits_deBruijn64tab), ("internal/strconv.uint64pow10", laid_internal_strconv_uint64pow10), ("unicode/utf8.acceptRanges", laid_unicode_utf8_acceptRanges), ("strconv.ErrRange", laid_strconv_ErrRange), ("strconv.ErrSyntax", laid_strconv_ErrSyntax), ("klaxon/math.levels", laid_klaxon_math_levels), ("klaxon/math.signs", laid_klaxon_math_signs), ("unicode/utf8.first", laid_unicode_utf8_first)], narrowed := true }
def EvalLastUptoSaid : Prop := evalLastUptoRow.holds Tryz.pinned (OpenSpec.upto evalLastSpec)

end Rows
end Go.Proofs.YtomkgfdigldhcaaGreatDoor
