/-
  NARROWER THAN 'FOR EVERY INPUT', by the rows' own cells (each row's printed sentence says how): FnExactDecimal: laid · FnExactTimeText: laid · FnExactMagText: laid · FnExactObserverText: laid · FnExactDateText: laid · FnExactReadDate: laid · FnExactPositionText: laid · FnExactSplitWords: laid · FnExactReadDecimal: laid · FnExactReadTime: laid · FnExactReadMag: laid · FnExactReadObserver: laid.
  DERIVED. THE GIVEN ROWS OF THIS SEAT. 12 by the template 'for every input the law returns true; each argument reads behind the call as it read before'; 0 by the template 'total and deterministic' (their statements: YtdplmbndafmlgaaDoorTotals.lean).
  GIVEN WITH THE SEED: the statements are not yours to turn. If you find one false, say at which input.
  Laid BY PROGRAM, IN A SANDBOX (cutbox-rows.mjs): the forced cells as the released guide's own fill.sh prints them over the translation 170b0260a37113a7… (all of the seat's roots in one cut). By AI agents, Wed Nov 11 2026. No macro, syntax, notation, axiom, sorry.
-/
import Derived.Test.YtdplmbndafmlgaaDoorChecked
import GoSem.PinnedTables
import GoSem.Claim
import GoSem.ClaimJoined
import GoSem.ClaimMapViews
import Derived.JoinedTies
import Derived.KernelRfl
namespace Go.Proofs.YtdplmbndafmlgaaDoor
/- THE CELL 'sum', in the pinned program and in every row, IS THE sha256 OF THE DUMP (.gsa) THAT YtdplmbndafmlgaaDoorProg.lean LOADS. Nothing in Lean hashes anything: it is a label: what it is worth is what the hold of that sum in a sandbox is worth. -/
noncomputable def Tryd.pinned : Pinned := { name := "ytdplmbndafmlgaadoor", sum := "170b0260a37113a7d32baec1c6fb23d414b7f815cd4d2a23fc0061b2939f6bb5", checked := Tryd.checked }
namespace Rows
def none {H : Type} : Left H := { results := [], args := [] }

/- WHAT THE LISTED PACKAGE-LEVEL VARIABLES READ AS WHEN THE CALL BEGINS. Each datum BY PROGRAM (the guide's laid-datum.mjs) off the statement by which the dump's own 'gosem.cut.vars' lays the variable. In a bare row this is a premise. The card (YtdplmbndafmlgaaDoorCards.lean) ties it to the program's text. -/
def laid_math_bits_deBruijn32tab {H : Type} : DataW H := .agg [.lit (.int .u8 0), .lit (.int .u8 1), .lit (.int .u8 28), .lit (.int .u8 2), .lit (.int .u8 29), .lit (.int .u8 14), .lit (.int .u8 24), .lit (.int .u8 3), .lit (.int .u8 30), .lit (.int .u8 22), .lit (.int .u8 20), .lit (.int .u8 15), .lit (.int .u8 25), .lit (.int .u8 17), .lit (.int .u8 4), .lit (.int .u8 8), .lit (.int .u8 31), .lit (.int .u8 27), .lit (.int .u8 13), .lit (.int .u8 23), .lit (.int .u8 21), .lit (.int .u8 19), .lit (.int .u8 16), .lit (.int .u8 7), .lit (.int .u8 26), .lit (.int .u8 12), .lit (.int .u8 18), .lit (.int .u8 6), .lit (.int .u8 11), .lit (.int .u8 5), .lit (.int .u8 10), .lit (.int .u8 9)]
def laid_math_bits_deBruijn64tab {H : Type} : DataW H := .agg [.lit (.int .u8 0), .lit (.int .u8 1), .lit (.int .u8 56), .lit (.int .u8 2), .lit (.int .u8 57), .lit (.int .u8 49), .lit (.int .u8 28), .lit (.int .u8 3), .lit (.int .u8 61), .lit (.int .u8 58), .lit (.int .u8 42), .lit (.int .u8 50), .lit (.int .u8 38), .lit (.int .u8 29), .lit (.int .u8 17), .lit (.int .u8 4), .lit (.int .u8 62), .lit (.int .u8 47), .lit (.int .u8 59), .lit (.int .u8 36), .lit (.int .u8 45), .lit (.int .u8 43), .lit (.int .u8 51), .lit (.int .u8 22), .lit (.int .u8 53), .lit (.int .u8 39), .lit (.int .u8 33), .lit (.int .u8 30), .lit (.int .u8 24), .lit (.int .u8 18), .lit (.int .u8 12), .lit (.int .u8 5), .lit (.int .u8 63), .lit (.int .u8 55), .lit (.int .u8 48), .lit (.int .u8 27), .lit (.int .u8 60), .lit (.int .u8 41), .lit (.int .u8 37), .lit (.int .u8 16), .lit (.int .u8 46), .lit (.int .u8 35), .lit (.int .u8 44), .lit (.int .u8 21), .lit (.int .u8 52), .lit (.int .u8 32), .lit (.int .u8 23), .lit (.int .u8 11), .lit (.int .u8 54), .lit (.int .u8 26), .lit (.int .u8 40), .lit (.int .u8 15), .lit (.int .u8 34), .lit (.int .u8 20), .lit (.int .u8 31), .lit (.int .u8 10), .lit (.int .u8 25), .lit (.int .u8 14), .lit (.int .u8 19), .lit (.int .u8 9), .lit (.int .u8 13), .lit (.int .u8 8), .lit (.int .u8 7), .lit (.int .u8 6)]
def laid_internal_strconv_uint64pow10 {H : Type} : DataW H := .agg [.lit (.int .u64 1), .lit (.int .u64 10), .lit (.int .u64 100), .lit (.int .u64 1000), .lit (.int .u64 10000), .lit (.int .u64 100000), .lit (.int .u64 1000000), .lit (.int .u64 10000000), .lit (.int .u64 100000000), .lit (.int .u64 1000000000), .lit (.int .u64 10000000000), .lit (.int .u64 100000000000), .lit (.int .u64 1000000000000), .lit (.int .u64 10000000000000), .lit (.int .u64 100000000000000), .lit (.int .u64 1000000000000000), .lit (.int .u64 10000000000000000), .lit (.int .u64 100000000000000000), .lit (.int .u64 1000000000000000000), .lit (.int .u64 10000000000000000000)]
def laid_unicode_utf8_acceptRanges {H : Type} : DataW H := .agg [.agg [.lit (.int .u8 128), .lit (.int .u8 191)], .agg [.lit (.int .u8 160), .lit (.int .u8 191)], .agg [.lit (.int .u8 128), .lit (.int .u8 159)], .agg [.lit (.int .u8 144), .lit (.int .u8 191)], .agg [.lit (.int .u8 128), .lit (.int .u8 143)], .agg [.lit (.int .u8 0), .lit (.int .u8 0)], .agg [.lit (.int .u8 0), .lit (.int .u8 0)], .agg [.lit (.int .u8 0), .lit (.int .u8 0)], .agg [.lit (.int .u8 0), .lit (.int .u8 0)], .agg [.lit (.int .u8 0), .lit (.int .u8 0)], .agg [.lit (.int .u8 0), .lit (.int .u8 0)], .agg [.lit (.int .u8 0), .lit (.int .u8 0)], .agg [.lit (.int .u8 0), .lit (.int .u8 0)], .agg [.lit (.int .u8 0), .lit (.int .u8 0)], .agg [.lit (.int .u8 0), .lit (.int .u8 0)], .agg [.lit (.int .u8 0), .lit (.int .u8 0)]]
/-- One of Go's own tables, pinned by name: the form's constant. -/
def laid_unicode_utf8_first : DataW Unit := Go.Pinned.utf8First
def laid_strconv_ErrRange {H : Type} : DataW H := .iface "*errors.errorString" (.ptr (.agg [.lit (.string [118, 97, 108, 117, 101, 32, 111, 117, 116, 32, 111, 102, 32, 114, 97, 110, 103, 101])]))
def laid_strconv_ErrSyntax {H : Type} : DataW H := .iface "*errors.errorString" (.ptr (.agg [.lit (.string [105, 110, 118, 97, 108, 105, 100, 32, 115, 121, 110, 116, 97, 120])]))

/-- 'laws.FnExactDecimal': WHATEVER THE INPUT: true; the input reads as it did. -/
def fnExactDecimalSpec : ChangeSpec := { name := "fnExactDecimal", fn := fun _ => fun
  | [d] => { results := [.lit (.bool true)], args := [d] }
  | _ => none }
def fnExactDecimalRow : OpenClaim := { program := "ytdplmbndafmlgaadoor", sum := "170b0260a37113a7d32baec1c6fb23d414b7f815cd4d2a23fc0061b2939f6bb5", func := "loop.example/g01026/laws.FnExactDecimal", spec := "fnExactDecimal", named := ["internal/strconv.uint64pow10", "math/bits.deBruijn32tab", "math/bits.deBruijn64tab"], apart := false, laid := [("math/bits.deBruijn32tab", laid_math_bits_deBruijn32tab), ("math/bits.deBruijn64tab", laid_math_bits_deBruijn64tab), ("internal/strconv.uint64pow10", laid_internal_strconv_uint64pow10)] }
def FnExactDecimalSaid : Prop := fnExactDecimalRow.holds Tryd.pinned (OpenSpec.ofChange fnExactDecimalSpec)

/-- ITS FALSE NEIGHBOUR: 'it returns false'. Refute it at one input. -/
def fnExactDecimalWrong : ChangeSpec := { name := "fnExactDecimal", fn := fun _ => fun
  | [d] => { results := [.lit (.bool false)], args := [d] }
  | _ => none }
def FnExactDecimalWrongFalsely : Prop := fnExactDecimalRow.holds Tryd.pinned (OpenSpec.ofChange fnExactDecimalWrong)

/-- 'laws.FnExactTimeText': WHATEVER THE INPUT: true; the input reads as it did. -/
def fnExactTimeTextSpec : ChangeSpec := { name := "fnExactTimeText", fn := fun _ => fun
  | [d] => { results := [.lit (.bool true)], args := [d] }
  | _ => none }
def fnExactTimeTextRow : OpenClaim := { program := "ytdplmbndafmlgaadoor", sum := "170b0260a37113a7d32baec1c6fb23d414b7f815cd4d2a23fc0061b2939f6bb5", func := "loop.example/g01026/laws.FnExactTimeText", spec := "fnExactTimeText", named := ["internal/strconv.uint64pow10", "math/bits.deBruijn32tab", "math/bits.deBruijn64tab"], apart := false, laid := [("math/bits.deBruijn32tab", laid_math_bits_deBruijn32tab), ("math/bits.deBruijn64tab", laid_math_bits_deBruijn64tab), ("internal/strconv.uint64pow10", laid_internal_strconv_uint64pow10)] }
def FnExactTimeTextSaid : Prop := fnExactTimeTextRow.holds Tryd.pinned (OpenSpec.ofChange fnExactTimeTextSpec)

/-- ITS FALSE NEIGHBOUR: 'it returns false'. Refute it at one input. -/
def fnExactTimeTextWrong : ChangeSpec := { name := "fnExactTimeText", fn := fun _ => fun
  | [d] => { results := [.lit (.bool false)], args := [d] }
  | _ => none }
def FnExactTimeTextWrongFalsely : Prop := fnExactTimeTextRow.holds Tryd.pinned (OpenSpec.ofChange fnExactTimeTextWrong)

/-- 'laws.FnExactMagText': WHATEVER THE INPUT: true; the input reads as it did. -/
def fnExactMagTextSpec : ChangeSpec := { name := "fnExactMagText", fn := fun _ => fun
  | [d] => { results := [.lit (.bool true)], args := [d] }
  | _ => none }
def fnExactMagTextRow : OpenClaim := { program := "ytdplmbndafmlgaadoor", sum := "170b0260a37113a7d32baec1c6fb23d414b7f815cd4d2a23fc0061b2939f6bb5", func := "loop.example/g01026/laws.FnExactMagText", spec := "fnExactMagText", named := ["internal/strconv.uint64pow10", "math/bits.deBruijn32tab", "math/bits.deBruijn64tab"], apart := false, laid := [("math/bits.deBruijn32tab", laid_math_bits_deBruijn32tab), ("math/bits.deBruijn64tab", laid_math_bits_deBruijn64tab), ("internal/strconv.uint64pow10", laid_internal_strconv_uint64pow10)] }
def FnExactMagTextSaid : Prop := fnExactMagTextRow.holds Tryd.pinned (OpenSpec.ofChange fnExactMagTextSpec)

/-- ITS FALSE NEIGHBOUR: 'it returns false'. Refute it at one input. -/
def fnExactMagTextWrong : ChangeSpec := { name := "fnExactMagText", fn := fun _ => fun
  | [d] => { results := [.lit (.bool false)], args := [d] }
  | _ => none }
def FnExactMagTextWrongFalsely : Prop := fnExactMagTextRow.holds Tryd.pinned (OpenSpec.ofChange fnExactMagTextWrong)

/-- 'laws.FnExactObserverText': WHATEVER THE INPUT: true; the input reads as it did. -/
def fnExactObserverTextSpec : ChangeSpec := { name := "fnExactObserverText", fn := fun _ => fun
  | [d] => { results := [.lit (.bool true)], args := [d] }
  | _ => none }
def fnExactObserverTextRow : OpenClaim := { program := "ytdplmbndafmlgaadoor", sum := "170b0260a37113a7d32baec1c6fb23d414b7f815cd4d2a23fc0061b2939f6bb5", func := "loop.example/g01026/laws.FnExactObserverText", spec := "fnExactObserverText", named := ["internal/strconv.uint64pow10", "math/bits.deBruijn32tab", "math/bits.deBruijn64tab"], apart := false, laid := [("math/bits.deBruijn32tab", laid_math_bits_deBruijn32tab), ("math/bits.deBruijn64tab", laid_math_bits_deBruijn64tab), ("internal/strconv.uint64pow10", laid_internal_strconv_uint64pow10)] }
def FnExactObserverTextSaid : Prop := fnExactObserverTextRow.holds Tryd.pinned (OpenSpec.ofChange fnExactObserverTextSpec)

/-- ITS FALSE NEIGHBOUR: 'it returns false'. Refute it at one input. -/
def fnExactObserverTextWrong : ChangeSpec := { name := "fnExactObserverText", fn := fun _ => fun
  | [d] => { results := [.lit (.bool false)], args := [d] }
  | _ => none }
def FnExactObserverTextWrongFalsely : Prop := fnExactObserverTextRow.holds Tryd.pinned (OpenSpec.ofChange fnExactObserverTextWrong)

/-- 'laws.FnExactDateText': WHATEVER THE INPUT: true; the input reads as it did. -/
def fnExactDateTextSpec : ChangeSpec := { name := "fnExactDateText", fn := fun _ => fun
  | [d] => { results := [.lit (.bool true)], args := [d] }
  | _ => none }
def fnExactDateTextRow : OpenClaim := { program := "ytdplmbndafmlgaadoor", sum := "170b0260a37113a7d32baec1c6fb23d414b7f815cd4d2a23fc0061b2939f6bb5", func := "loop.example/g01026/laws.FnExactDateText", spec := "fnExactDateText", named := ["internal/strconv.uint64pow10", "math/bits.deBruijn32tab", "math/bits.deBruijn64tab"], apart := false, laid := [("math/bits.deBruijn32tab", laid_math_bits_deBruijn32tab), ("math/bits.deBruijn64tab", laid_math_bits_deBruijn64tab), ("internal/strconv.uint64pow10", laid_internal_strconv_uint64pow10)] }
def FnExactDateTextSaid : Prop := fnExactDateTextRow.holds Tryd.pinned (OpenSpec.ofChange fnExactDateTextSpec)

/-- ITS FALSE NEIGHBOUR: 'it returns false'. Refute it at one input. -/
def fnExactDateTextWrong : ChangeSpec := { name := "fnExactDateText", fn := fun _ => fun
  | [d] => { results := [.lit (.bool false)], args := [d] }
  | _ => none }
def FnExactDateTextWrongFalsely : Prop := fnExactDateTextRow.holds Tryd.pinned (OpenSpec.ofChange fnExactDateTextWrong)

/-- 'laws.FnExactReadDate': WHATEVER THE INPUT: true; the input reads as it did. -/
def fnExactReadDateSpec : ChangeSpec := { name := "fnExactReadDate", fn := fun _ => fun
  | [d] => { results := [.lit (.bool true)], args := [d] }
  | _ => none }
def fnExactReadDateRow : OpenClaim := { program := "ytdplmbndafmlgaadoor", sum := "170b0260a37113a7d32baec1c6fb23d414b7f815cd4d2a23fc0061b2939f6bb5", func := "loop.example/g01026/laws.FnExactReadDate", spec := "fnExactReadDate", named := ["internal/strconv.uint64pow10", "math/bits.deBruijn32tab", "math/bits.deBruijn64tab"], apart := false, laid := [("math/bits.deBruijn32tab", laid_math_bits_deBruijn32tab), ("math/bits.deBruijn64tab", laid_math_bits_deBruijn64tab), ("internal/strconv.uint64pow10", laid_internal_strconv_uint64pow10)] }
def FnExactReadDateSaid : Prop := fnExactReadDateRow.holds Tryd.pinned (OpenSpec.ofChange fnExactReadDateSpec)

/-- ITS FALSE NEIGHBOUR: 'it returns false'. Refute it at one input. -/
def fnExactReadDateWrong : ChangeSpec := { name := "fnExactReadDate", fn := fun _ => fun
  | [d] => { results := [.lit (.bool false)], args := [d] }
  | _ => none }
def FnExactReadDateWrongFalsely : Prop := fnExactReadDateRow.holds Tryd.pinned (OpenSpec.ofChange fnExactReadDateWrong)

/-- 'laws.FnExactPositionText': WHATEVER THE INPUT: true; the input reads as it did. -/
def fnExactPositionTextSpec : ChangeSpec := { name := "fnExactPositionText", fn := fun _ => fun
  | [d] => { results := [.lit (.bool true)], args := [d] }
  | _ => none }
def fnExactPositionTextRow : OpenClaim := { program := "ytdplmbndafmlgaadoor", sum := "170b0260a37113a7d32baec1c6fb23d414b7f815cd4d2a23fc0061b2939f6bb5", func := "loop.example/g01026/laws.FnExactPositionText", spec := "fnExactPositionText", inPlace := ["internal/abi.NoEscape", "internal/bytealg.MakeNoZero"], named := ["internal/strconv.uint64pow10", "math/bits.deBruijn32tab", "math/bits.deBruijn64tab"], apart := false, laid := [("math/bits.deBruijn32tab", laid_math_bits_deBruijn32tab), ("math/bits.deBruijn64tab", laid_math_bits_deBruijn64tab), ("internal/strconv.uint64pow10", laid_internal_strconv_uint64pow10)] }
def FnExactPositionTextSaid : Prop := fnExactPositionTextRow.holds Tryd.pinned (OpenSpec.ofChange fnExactPositionTextSpec)

/-- ITS FALSE NEIGHBOUR: 'it returns false'. Refute it at one input. -/
def fnExactPositionTextWrong : ChangeSpec := { name := "fnExactPositionText", fn := fun _ => fun
  | [d] => { results := [.lit (.bool false)], args := [d] }
  | _ => none }
def FnExactPositionTextWrongFalsely : Prop := fnExactPositionTextRow.holds Tryd.pinned (OpenSpec.ofChange fnExactPositionTextWrong)

/-- 'laws.FnExactSplitWords': WHATEVER THE INPUT: true; the input reads as it did. -/
def fnExactSplitWordsSpec : ChangeSpec := { name := "fnExactSplitWords", fn := fun _ => fun
  | [d] => { results := [.lit (.bool true)], args := [d] }
  | _ => none }
def fnExactSplitWordsRow : OpenClaim := { program := "ytdplmbndafmlgaadoor", sum := "170b0260a37113a7d32baec1c6fb23d414b7f815cd4d2a23fc0061b2939f6bb5", func := "loop.example/g01026/laws.FnExactSplitWords", spec := "fnExactSplitWords", inPlace := ["internal/bytealg.CountString", "internal/bytealg.IndexByteString", "internal/bytealg.IndexString"], named := ["unicode/utf8.first", "unicode/utf8.acceptRanges", "internal/bytealg.MaxLen"], apart := false, laid := [("unicode/utf8.acceptRanges", laid_unicode_utf8_acceptRanges), ("unicode/utf8.first", laid_unicode_utf8_first)] }
def FnExactSplitWordsSaid : Prop := fnExactSplitWordsRow.holds Tryd.pinned (OpenSpec.ofChange fnExactSplitWordsSpec)

/-- ITS FALSE NEIGHBOUR: 'it returns false'. Refute it at one input. -/
def fnExactSplitWordsWrong : ChangeSpec := { name := "fnExactSplitWords", fn := fun _ => fun
  | [d] => { results := [.lit (.bool false)], args := [d] }
  | _ => none }
def FnExactSplitWordsWrongFalsely : Prop := fnExactSplitWordsRow.holds Tryd.pinned (OpenSpec.ofChange fnExactSplitWordsWrong)

/-- 'laws.FnExactReadDecimal': WHATEVER THE INPUT: true; the input reads as it did. -/
def fnExactReadDecimalSpec : ChangeSpec := { name := "fnExactReadDecimal", fn := fun _ => fun
  | [d] => { results := [.lit (.bool true)], args := [d] }
  | _ => none }
def fnExactReadDecimalRow : OpenClaim := { program := "ytdplmbndafmlgaadoor", sum := "170b0260a37113a7d32baec1c6fb23d414b7f815cd4d2a23fc0061b2939f6bb5", func := "loop.example/g01026/laws.FnExactReadDecimal", spec := "fnExactReadDecimal", named := ["strconv.ErrSyntax", "strconv.ErrRange", "internal/strconv.uint64pow10", "math/bits.deBruijn32tab", "math/bits.deBruijn64tab"], apart := false, laid := [("math/bits.deBruijn32tab", laid_math_bits_deBruijn32tab), ("math/bits.deBruijn64tab", laid_math_bits_deBruijn64tab), ("internal/strconv.uint64pow10", laid_internal_strconv_uint64pow10), ("strconv.ErrRange", laid_strconv_ErrRange), ("strconv.ErrSyntax", laid_strconv_ErrSyntax)] }
def FnExactReadDecimalSaid : Prop := fnExactReadDecimalRow.holds Tryd.pinned (OpenSpec.ofChange fnExactReadDecimalSpec)

/-- ITS FALSE NEIGHBOUR: 'it returns false'. Refute it at one input. -/
def fnExactReadDecimalWrong : ChangeSpec := { name := "fnExactReadDecimal", fn := fun _ => fun
  | [d] => { results := [.lit (.bool false)], args := [d] }
  | _ => none }
def FnExactReadDecimalWrongFalsely : Prop := fnExactReadDecimalRow.holds Tryd.pinned (OpenSpec.ofChange fnExactReadDecimalWrong)

/-- 'laws.FnExactReadTime': WHATEVER THE INPUT: true; the input reads as it did. -/
def fnExactReadTimeSpec : ChangeSpec := { name := "fnExactReadTime", fn := fun _ => fun
  | [d] => { results := [.lit (.bool true)], args := [d] }
  | _ => none }
def fnExactReadTimeRow : OpenClaim := { program := "ytdplmbndafmlgaadoor", sum := "170b0260a37113a7d32baec1c6fb23d414b7f815cd4d2a23fc0061b2939f6bb5", func := "loop.example/g01026/laws.FnExactReadTime", spec := "fnExactReadTime", inPlace := ["internal/bytealg.IndexByteString", "internal/bytealg.IndexString"], named := ["internal/bytealg.MaxLen", "strconv.ErrSyntax", "strconv.ErrRange", "internal/strconv.uint64pow10", "math/bits.deBruijn32tab", "math/bits.deBruijn64tab"], apart := false, laid := [("math/bits.deBruijn32tab", laid_math_bits_deBruijn32tab), ("math/bits.deBruijn64tab", laid_math_bits_deBruijn64tab), ("internal/strconv.uint64pow10", laid_internal_strconv_uint64pow10), ("strconv.ErrRange", laid_strconv_ErrRange), ("strconv.ErrSyntax", laid_strconv_ErrSyntax)] }
def FnExactReadTimeSaid : Prop := fnExactReadTimeRow.holds Tryd.pinned (OpenSpec.ofChange fnExactReadTimeSpec)

/-- ITS FALSE NEIGHBOUR: 'it returns false'. Refute it at one input. -/
def fnExactReadTimeWrong : ChangeSpec := { name := "fnExactReadTime", fn := fun _ => fun
  | [d] => { results := [.lit (.bool false)], args := [d] }
  | _ => none }
def FnExactReadTimeWrongFalsely : Prop := fnExactReadTimeRow.holds Tryd.pinned (OpenSpec.ofChange fnExactReadTimeWrong)

/-- 'laws.FnExactReadMag': WHATEVER THE INPUT: true; the input reads as it did. -/
def fnExactReadMagSpec : ChangeSpec := { name := "fnExactReadMag", fn := fun _ => fun
  | [d] => { results := [.lit (.bool true)], args := [d] }
  | _ => none }
def fnExactReadMagRow : OpenClaim := { program := "ytdplmbndafmlgaadoor", sum := "170b0260a37113a7d32baec1c6fb23d414b7f815cd4d2a23fc0061b2939f6bb5", func := "loop.example/g01026/laws.FnExactReadMag", spec := "fnExactReadMag", inPlace := ["internal/bytealg.IndexByteString", "internal/bytealg.IndexString"], named := ["internal/bytealg.MaxLen", "strconv.ErrSyntax", "strconv.ErrRange", "internal/strconv.uint64pow10", "math/bits.deBruijn32tab", "math/bits.deBruijn64tab"], apart := false, laid := [("math/bits.deBruijn32tab", laid_math_bits_deBruijn32tab), ("math/bits.deBruijn64tab", laid_math_bits_deBruijn64tab), ("internal/strconv.uint64pow10", laid_internal_strconv_uint64pow10), ("strconv.ErrRange", laid_strconv_ErrRange), ("strconv.ErrSyntax", laid_strconv_ErrSyntax)] }
def FnExactReadMagSaid : Prop := fnExactReadMagRow.holds Tryd.pinned (OpenSpec.ofChange fnExactReadMagSpec)

/-- ITS FALSE NEIGHBOUR: 'it returns false'. Refute it at one input. -/
def fnExactReadMagWrong : ChangeSpec := { name := "fnExactReadMag", fn := fun _ => fun
  | [d] => { results := [.lit (.bool false)], args := [d] }
  | _ => none }
def FnExactReadMagWrongFalsely : Prop := fnExactReadMagRow.holds Tryd.pinned (OpenSpec.ofChange fnExactReadMagWrong)

/-- 'laws.FnExactReadObserver': WHATEVER THE INPUT: true; the input reads as it did. -/
def fnExactReadObserverSpec : ChangeSpec := { name := "fnExactReadObserver", fn := fun _ => fun
  | [d] => { results := [.lit (.bool true)], args := [d] }
  | _ => none }
def fnExactReadObserverRow : OpenClaim := { program := "ytdplmbndafmlgaadoor", sum := "170b0260a37113a7d32baec1c6fb23d414b7f815cd4d2a23fc0061b2939f6bb5", func := "loop.example/g01026/laws.FnExactReadObserver", spec := "fnExactReadObserver", inPlace := ["internal/bytealg.IndexByteString", "internal/bytealg.IndexString"], named := ["internal/bytealg.MaxLen", "strconv.ErrSyntax", "strconv.ErrRange", "internal/strconv.uint64pow10", "math/bits.deBruijn32tab", "math/bits.deBruijn64tab"], apart := false, laid := [("math/bits.deBruijn32tab", laid_math_bits_deBruijn32tab), ("math/bits.deBruijn64tab", laid_math_bits_deBruijn64tab), ("internal/strconv.uint64pow10", laid_internal_strconv_uint64pow10), ("strconv.ErrRange", laid_strconv_ErrRange), ("strconv.ErrSyntax", laid_strconv_ErrSyntax)] }
def FnExactReadObserverSaid : Prop := fnExactReadObserverRow.holds Tryd.pinned (OpenSpec.ofChange fnExactReadObserverSpec)

/-- ITS FALSE NEIGHBOUR: 'it returns false'. Refute it at one input. -/
def fnExactReadObserverWrong : ChangeSpec := { name := "fnExactReadObserver", fn := fun _ => fun
  | [d] => { results := [.lit (.bool false)], args := [d] }
  | _ => none }
def FnExactReadObserverWrongFalsely : Prop := fnExactReadObserverRow.holds Tryd.pinned (OpenSpec.ofChange fnExactReadObserverWrong)

/- THE SECOND FORM. 'bulk': how many values and letters a reading holds, each counted each time it is reached (what is shared counts as often as it is met; a slice's spare places count too). A statement '..UptoSaid' is the law's where the arguments, and the package variables that the reading takes, are together of bulk at most 1048576: NARROWER than '..Said'. Prove '..Said' where nothing that the law and all that it calls make is longer than what came in: it says more and counts as full. Else prove '..UptoSaid'. A law counts once. -/
mutual
def uptoBulk {H : Type} : DataW H → Nat
  | .lit (.string bytes) => bytes.length + 1
  | .lit _ => 1
  | .nil => 1
  | .ptr d => uptoBulk d + 1
  | .slice elems spare => uptoBulkAll elems + uptoBulkAll spare + 1
  | .agg parts => uptoBulkAll parts + 1
  | .iface _ d => uptoBulk d + 1
  | .map entries => uptoBulkEntries entries + 1
  | .held _ => 1
def uptoBulkAll {H : Type} : List (DataW H) → Nat
  | [] => 0
  | d :: r => uptoBulk d + uptoBulkAll r
def uptoBulkEntries {H : Type} : List (Lit × DataW H) → Nat
  | [] => 0
  | x :: r => uptoBulkEntry x + uptoBulkEntries r
def uptoBulkEntry {H : Type} : Lit × DataW H → Nat
  | (.string bytes, d) => bytes.length + uptoBulk d + 1
  | (_, d) => uptoBulk d + 1
 end
def uptoSmall : (H : Type) → List (DataW H) → Bool := fun _ ds => decide (uptoBulkAll ds ≤ 1048576)
def OpenSpec.upto (s : _root_.Go.ChangeSpec) : _root_.Go.OpenSpec := { _root_.Go.OpenSpec.ofChange s with cond := some uptoSmall }

/-- 'laws.FnExactDecimal', WHERE WHAT IT READS IS OF BULK AT MOST 1048576: true; the input reads as it did. -/
def fnExactDecimalUptoRow : OpenClaim := { program := "ytdplmbndafmlgaadoor", sum := "170b0260a37113a7d32baec1c6fb23d414b7f815cd4d2a23fc0061b2939f6bb5", func := "loop.example/g01026/laws.FnExactDecimal", spec := "fnExactDecimal", named := ["internal/strconv.uint64pow10", "math/bits.deBruijn32tab", "math/bits.deBruijn64tab"], apart := false, laid := [("math/bits.deBruijn32tab", laid_math_bits_deBruijn32tab), ("math/bits.deBruijn64tab", laid_math_bits_deBruijn64tab), ("internal/strconv.uint64pow10", laid_internal_strconv_uint64pow10)], narrowed := true }
def FnExactDecimalUptoSaid : Prop := fnExactDecimalUptoRow.holds Tryd.pinned (OpenSpec.upto fnExactDecimalSpec)

/-- 'laws.FnExactTimeText', WHERE WHAT IT READS IS OF BULK AT MOST 1048576: true; the input reads as it did. -/
def fnExactTimeTextUptoRow : OpenClaim := { program := "ytdplmbndafmlgaadoor", sum := "170b0260a37113a7d32baec1c6fb23d414b7f815cd4d2a23fc0061b2939f6bb5", func := "loop.example/g01026/laws.FnExactTimeText", spec := "fnExactTimeText", named := ["internal/strconv.uint64pow10", "math/bits.deBruijn32tab", "math/bits.deBruijn64tab"], apart := false, laid := [("math/bits.deBruijn32tab", laid_math_bits_deBruijn32tab), ("math/bits.deBruijn64tab", laid_math_bits_deBruijn64tab), ("internal/strconv.uint64pow10", laid_internal_strconv_uint64pow10)], narrowed := true }
def FnExactTimeTextUptoSaid : Prop := fnExactTimeTextUptoRow.holds Tryd.pinned (OpenSpec.upto fnExactTimeTextSpec)

/-- 'laws.FnExactMagText', WHERE WHAT IT READS IS OF BULK AT MOST 1048576: true; the input reads as it did. -/
def fnExactMagTextUptoRow : OpenClaim := { program := "ytdplmbndafmlgaadoor", sum := "170b0260a37113a7d32baec1c6fb23d414b7f815cd4d2a23fc0061b2939f6bb5", func := "loop.example/g01026/laws.FnExactMagText", spec := "fnExactMagText", named := ["internal/strconv.uint64pow10", "math/bits.deBruijn32tab", "math/bits.deBruijn64tab"], apart := false, laid := [("math/bits.deBruijn32tab", laid_math_bits_deBruijn32tab), ("math/bits.deBruijn64tab", laid_math_bits_deBruijn64tab), ("internal/strconv.uint64pow10", laid_internal_strconv_uint64pow10)], narrowed := true }
def FnExactMagTextUptoSaid : Prop := fnExactMagTextUptoRow.holds Tryd.pinned (OpenSpec.upto fnExactMagTextSpec)

/-- 'laws.FnExactObserverText', WHERE WHAT IT READS IS OF BULK AT MOST 1048576: true; the input reads as it did. -/
def fnExactObserverTextUptoRow : OpenClaim := { program := "ytdplmbndafmlgaadoor", sum := "170b0260a37113a7d32baec1c6fb23d414b7f815cd4d2a23fc0061b2939f6bb5", func := "loop.example/g01026/laws.FnExactObserverText", spec := "fnExactObserverText", named := ["internal/strconv.uint64pow10", "math/bits.deBruijn32tab", "math/bits.deBruijn64tab"], apart := false, laid := [("math/bits.deBruijn32tab", laid_math_bits_deBruijn32tab), ("math/bits.deBruijn64tab", laid_math_bits_deBruijn64tab), ("internal/strconv.uint64pow10", laid_internal_strconv_uint64pow10)], narrowed := true }
def FnExactObserverTextUptoSaid : Prop := fnExactObserverTextUptoRow.holds Tryd.pinned (OpenSpec.upto fnExactObserverTextSpec)

/-- 'laws.FnExactDateText', WHERE WHAT IT READS IS OF BULK AT MOST 1048576: true; the input reads as it did. -/
def fnExactDateTextUptoRow : OpenClaim := { program := "ytdplmbndafmlgaadoor", sum := "170b0260a37113a7d32baec1c6fb23d414b7f815cd4d2a23fc0061b2939f6bb5", func := "loop.example/g01026/laws.FnExactDateText", spec := "fnExactDateText", named := ["internal/strconv.uint64pow10", "math/bits.deBruijn32tab", "math/bits.deBruijn64tab"], apart := false, laid := [("math/bits.deBruijn32tab", laid_math_bits_deBruijn32tab), ("math/bits.deBruijn64tab", laid_math_bits_deBruijn64tab), ("internal/strconv.uint64pow10", laid_internal_strconv_uint64pow10)], narrowed := true }
def FnExactDateTextUptoSaid : Prop := fnExactDateTextUptoRow.holds Tryd.pinned (OpenSpec.upto fnExactDateTextSpec)

/-- 'laws.FnExactReadDate', WHERE WHAT IT READS IS OF BULK AT MOST 1048576: true; the input reads as it did. -/
def fnExactReadDateUptoRow : OpenClaim := { program := "ytdplmbndafmlgaadoor", sum := "170b0260a37113a7d32baec1c6fb23d414b7f815cd4d2a23fc0061b2939f6bb5", func := "loop.example/g01026/laws.FnExactReadDate", spec := "fnExactReadDate", named := ["internal/strconv.uint64pow10", "math/bits.deBruijn32tab", "math/bits.deBruijn64tab"], apart := false, laid := [("math/bits.deBruijn32tab", laid_math_bits_deBruijn32tab), ("math/bits.deBruijn64tab", laid_math_bits_deBruijn64tab), ("internal/strconv.uint64pow10", laid_internal_strconv_uint64pow10)], narrowed := true }
def FnExactReadDateUptoSaid : Prop := fnExactReadDateUptoRow.holds Tryd.pinned (OpenSpec.upto fnExactReadDateSpec)

/-- 'laws.FnExactPositionText', WHERE WHAT IT READS IS OF BULK AT MOST 1048576: true; the input reads as it did. -/
def fnExactPositionTextUptoRow : OpenClaim := { program := "ytdplmbndafmlgaadoor", sum := "170b0260a37113a7d32baec1c6fb23d414b7f815cd4d2a23fc0061b2939f6bb5", func := "loop.example/g01026/laws.FnExactPositionText", spec := "fnExactPositionText", inPlace := ["internal/abi.NoEscape", "internal/bytealg.MakeNoZero"], named := ["internal/strconv.uint64pow10", "math/bits.deBruijn32tab", "math/bits.deBruijn64tab"], apart := false, laid := [("math/bits.deBruijn32tab", laid_math_bits_deBruijn32tab), ("math/bits.deBruijn64tab", laid_math_bits_deBruijn64tab), ("internal/strconv.uint64pow10", laid_internal_strconv_uint64pow10)], narrowed := true }
def FnExactPositionTextUptoSaid : Prop := fnExactPositionTextUptoRow.holds Tryd.pinned (OpenSpec.upto fnExactPositionTextSpec)

/-- 'laws.FnExactSplitWords', WHERE WHAT IT READS IS OF BULK AT MOST 1048576: true; the input reads as it did. -/
def fnExactSplitWordsUptoRow : OpenClaim := { program := "ytdplmbndafmlgaadoor", sum := "170b0260a37113a7d32baec1c6fb23d414b7f815cd4d2a23fc0061b2939f6bb5", func := "loop.example/g01026/laws.FnExactSplitWords", spec := "fnExactSplitWords", inPlace := ["internal/bytealg.CountString", "internal/bytealg.IndexByteString", "internal/bytealg.IndexString"], named := ["unicode/utf8.first", "unicode/utf8.acceptRanges", "internal/bytealg.MaxLen"], apart := false, laid := [("unicode/utf8.acceptRanges", laid_unicode_utf8_acceptRanges), ("unicode/utf8.first", laid_unicode_utf8_first)], narrowed := true }
def FnExactSplitWordsUptoSaid : Prop := fnExactSplitWordsUptoRow.holds Tryd.pinned (OpenSpec.upto fnExactSplitWordsSpec)

/-- 'laws.FnExactReadDecimal', WHERE WHAT IT READS IS OF BULK AT MOST 1048576: true; the input reads as it did. -/
def fnExactReadDecimalUptoRow : OpenClaim := { program := "ytdplmbndafmlgaadoor", sum := "170b0260a37113a7d32baec1c6fb23d414b7f815cd4d2a23fc0061b2939f6bb5", func := "loop.example/g01026/laws.FnExactReadDecimal", spec := "fnExactReadDecimal", named := ["strconv.ErrSyntax", "strconv.ErrRange", "internal/strconv.uint64pow10", "math/bits.deBruijn32tab", "math/bits.deBruijn64tab"], apart := false, laid := [("math/bits.deBruijn32tab", laid_math_bits_deBruijn32tab), ("math/bits.deBruijn64tab", laid_math_bits_deBruijn64tab), ("internal/strconv.uint64pow10", laid_internal_strconv_uint64pow10), ("strconv.ErrRange", laid_strconv_ErrRange), ("strconv.ErrSyntax", laid_strconv_ErrSyntax)], narrowed := true }
def FnExactReadDecimalUptoSaid : Prop := fnExactReadDecimalUptoRow.holds Tryd.pinned (OpenSpec.upto fnExactReadDecimalSpec)

/-- 'laws.FnExactReadTime', WHERE WHAT IT READS IS OF BULK AT MOST 1048576: true; the input reads as it did. -/
def fnExactReadTimeUptoRow : OpenClaim := { program := "ytdplmbndafmlgaadoor", sum := "170b0260a37113a7d32baec1c6fb23d414b7f815cd4d2a23fc0061b2939f6bb5", func := "loop.example/g01026/laws.FnExactReadTime", spec := "fnExactReadTime", inPlace := ["internal/bytealg.IndexByteString", "internal/bytealg.IndexString"], named := ["internal/bytealg.MaxLen", "strconv.ErrSyntax", "strconv.ErrRange", "internal/strconv.uint64pow10", "math/bits.deBruijn32tab", "math/bits.deBruijn64tab"], apart := false, laid := [("math/bits.deBruijn32tab", laid_math_bits_deBruijn32tab), ("math/bits.deBruijn64tab", laid_math_bits_deBruijn64tab), ("internal/strconv.uint64pow10", laid_internal_strconv_uint64pow10), ("strconv.ErrRange", laid_strconv_ErrRange), ("strconv.ErrSyntax", laid_strconv_ErrSyntax)], narrowed := true }
def FnExactReadTimeUptoSaid : Prop := fnExactReadTimeUptoRow.holds Tryd.pinned (OpenSpec.upto fnExactReadTimeSpec)

/-- 'laws.FnExactReadMag', WHERE WHAT IT READS IS OF BULK AT MOST 1048576: true; the input reads as it did. -/
def fnExactReadMagUptoRow : OpenClaim := { program := "ytdplmbndafmlgaadoor", sum := "170b0260a37113a7d32baec1c6fb23d414b7f815cd4d2a23fc0061b2939f6bb5", func := "loop.example/g01026/laws.FnExactReadMag", spec := "fnExactReadMag", inPlace := ["internal/bytealg.IndexByteString", "internal/bytealg.IndexString"], named := ["internal/bytealg.MaxLen", "strconv.ErrSyntax", "strconv.ErrRange", "internal/strconv.uint64pow10", "math/bits.deBruijn32tab", "math/bits.deBruijn64tab"], apart := false, laid := [("math/bits.deBruijn32tab", laid_math_bits_deBruijn32tab), ("math/bits.deBruijn64tab", laid_math_bits_deBruijn64tab), ("internal/strconv.uint64pow10", laid_internal_strconv_uint64pow10), ("strconv.ErrRange", laid_strconv_ErrRange), ("strconv.ErrSyntax", laid_strconv_ErrSyntax)], narrowed := true }
def FnExactReadMagUptoSaid : Prop := fnExactReadMagUptoRow.holds Tryd.pinned (OpenSpec.upto fnExactReadMagSpec)

/-- 'laws.FnExactReadObserver', WHERE WHAT IT READS IS OF BULK AT MOST 1048576: true; the input reads as it did. -/
def fnExactReadObserverUptoRow : OpenClaim := { program := "ytdplmbndafmlgaadoor", sum := "170b0260a37113a7d32baec1c6fb23d414b7f815cd4d2a23fc0061b2939f6bb5", func := "loop.example/g01026/laws.FnExactReadObserver", spec := "fnExactReadObserver", inPlace := ["internal/bytealg.IndexByteString", "internal/bytealg.IndexString"], named := ["internal/bytealg.MaxLen", "strconv.ErrSyntax", "strconv.ErrRange", "internal/strconv.uint64pow10", "math/bits.deBruijn32tab", "math/bits.deBruijn64tab"], apart := false, laid := [("math/bits.deBruijn32tab", laid_math_bits_deBruijn32tab), ("math/bits.deBruijn64tab", laid_math_bits_deBruijn64tab), ("internal/strconv.uint64pow10", laid_internal_strconv_uint64pow10), ("strconv.ErrRange", laid_strconv_ErrRange), ("strconv.ErrSyntax", laid_strconv_ErrSyntax)], narrowed := true }
def FnExactReadObserverUptoSaid : Prop := fnExactReadObserverUptoRow.holds Tryd.pinned (OpenSpec.upto fnExactReadObserverSpec)

end Rows
end Go.Proofs.YtdplmbndafmlgaaDoor
