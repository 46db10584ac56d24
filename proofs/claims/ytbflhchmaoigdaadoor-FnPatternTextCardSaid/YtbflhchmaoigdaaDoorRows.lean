/-
  NARROWER THAN 'FOR EVERY INPUT', by the rows' own cells (each row's printed sentence says how): FnExactFormatInt: laid · FnExactSplit: laid · FnExactFormatCond: laid · FnPatternText: laid · FnExactParseFact: laid · FnExactParsePattern: laid · FnExactParseFacts: laid · FnCondText: laid · FnAtoms: laid · FnFactText: laid · FnSplit: laid.
  DERIVED. THE GIVEN ROWS OF THIS SEAT. 11 by the template 'for every input the law returns true; each argument reads behind the call as it read before'; 0 by the template 'total and deterministic' (their statements: YtbflhchmaoigdaaDoorTotals.lean).
  GIVEN WITH THE SEED: the statements are not yours to turn. If you find one false, say at which input.
  Laid BY PROGRAM, IN A SANDBOX (cutbox-rows.mjs): the forced cells as the released guide's own fill.sh prints them over the translation 0a13be14898475bb… (all of the seat's roots in one cut). By AI agents, Wed Nov 11 2026. No macro, syntax, notation, axiom, sorry.
-/
import Derived.Test.YtbflhchmaoigdaaDoorChecked
import GoSem.PinnedTables
import GoSem.Claim
import GoSem.ClaimJoined
import GoSem.ClaimMapViews
import Derived.JoinedTies
import Derived.KernelRfl
namespace Go.Proofs.YtbflhchmaoigdaaDoor
/- THE CELL 'sum', in the pinned program and in every row, IS THE sha256 OF THE DUMP (.gsa) THAT YtbflhchmaoigdaaDoorProg.lean LOADS. Nothing in Lean hashes anything: it is a label: what it is worth is what the hold of that sum in a sandbox is worth. -/
noncomputable def Tryd.pinned : Pinned := { name := "ytbflhchmaoigdaadoor", sum := "0a13be14898475bb64f35f2b1f5234c8b355aeebd8b54dd671c4d1fdd1260423", checked := Tryd.checked }
namespace Rows
def none {H : Type} : Left H := { results := [], args := [] }

/- WHAT THE LISTED PACKAGE-LEVEL VARIABLES READ AS WHEN THE CALL BEGINS. Each datum BY PROGRAM (the guide's laid-datum.mjs) off the statement by which the dump's own 'gosem.cut.vars' lays the variable. In a bare row this is a premise. The card (YtbflhchmaoigdaaDoorCards.lean) ties it to the program's text. -/
def laid_math_bits_deBruijn32tab {H : Type} : DataW H := .agg [.lit (.int .u8 0), .lit (.int .u8 1), .lit (.int .u8 28), .lit (.int .u8 2), .lit (.int .u8 29), .lit (.int .u8 14), .lit (.int .u8 24), .lit (.int .u8 3), .lit (.int .u8 30), .lit (.int .u8 22), .lit (.int .u8 20), .lit (.int .u8 15), .lit (.int .u8 25), .lit (.int .u8 17), .lit (.int .u8 4), .lit (.int .u8 8), .lit (.int .u8 31), .lit (.int .u8 27), .lit (.int .u8 13), .lit (.int .u8 23), .lit (.int .u8 21), .lit (.int .u8 19), .lit (.int .u8 16), .lit (.int .u8 7), .lit (.int .u8 26), .lit (.int .u8 12), .lit (.int .u8 18), .lit (.int .u8 6), .lit (.int .u8 11), .lit (.int .u8 5), .lit (.int .u8 10), .lit (.int .u8 9)]
def laid_math_bits_deBruijn64tab {H : Type} : DataW H := .agg [.lit (.int .u8 0), .lit (.int .u8 1), .lit (.int .u8 56), .lit (.int .u8 2), .lit (.int .u8 57), .lit (.int .u8 49), .lit (.int .u8 28), .lit (.int .u8 3), .lit (.int .u8 61), .lit (.int .u8 58), .lit (.int .u8 42), .lit (.int .u8 50), .lit (.int .u8 38), .lit (.int .u8 29), .lit (.int .u8 17), .lit (.int .u8 4), .lit (.int .u8 62), .lit (.int .u8 47), .lit (.int .u8 59), .lit (.int .u8 36), .lit (.int .u8 45), .lit (.int .u8 43), .lit (.int .u8 51), .lit (.int .u8 22), .lit (.int .u8 53), .lit (.int .u8 39), .lit (.int .u8 33), .lit (.int .u8 30), .lit (.int .u8 24), .lit (.int .u8 18), .lit (.int .u8 12), .lit (.int .u8 5), .lit (.int .u8 63), .lit (.int .u8 55), .lit (.int .u8 48), .lit (.int .u8 27), .lit (.int .u8 60), .lit (.int .u8 41), .lit (.int .u8 37), .lit (.int .u8 16), .lit (.int .u8 46), .lit (.int .u8 35), .lit (.int .u8 44), .lit (.int .u8 21), .lit (.int .u8 52), .lit (.int .u8 32), .lit (.int .u8 23), .lit (.int .u8 11), .lit (.int .u8 54), .lit (.int .u8 26), .lit (.int .u8 40), .lit (.int .u8 15), .lit (.int .u8 34), .lit (.int .u8 20), .lit (.int .u8 31), .lit (.int .u8 10), .lit (.int .u8 25), .lit (.int .u8 14), .lit (.int .u8 19), .lit (.int .u8 9), .lit (.int .u8 13), .lit (.int .u8 8), .lit (.int .u8 7), .lit (.int .u8 6)]
def laid_internal_strconv_uint64pow10 {H : Type} : DataW H := .agg [.lit (.int .u64 1), .lit (.int .u64 10), .lit (.int .u64 100), .lit (.int .u64 1000), .lit (.int .u64 10000), .lit (.int .u64 100000), .lit (.int .u64 1000000), .lit (.int .u64 10000000), .lit (.int .u64 100000000), .lit (.int .u64 1000000000), .lit (.int .u64 10000000000), .lit (.int .u64 100000000000), .lit (.int .u64 1000000000000), .lit (.int .u64 10000000000000), .lit (.int .u64 100000000000000), .lit (.int .u64 1000000000000000), .lit (.int .u64 10000000000000000), .lit (.int .u64 100000000000000000), .lit (.int .u64 1000000000000000000), .lit (.int .u64 10000000000000000000)]
def laid_unicode_utf8_acceptRanges {H : Type} : DataW H := .agg [.agg [.lit (.int .u8 128), .lit (.int .u8 191)], .agg [.lit (.int .u8 160), .lit (.int .u8 191)], .agg [.lit (.int .u8 128), .lit (.int .u8 159)], .agg [.lit (.int .u8 144), .lit (.int .u8 191)], .agg [.lit (.int .u8 128), .lit (.int .u8 143)], .agg [.lit (.int .u8 0), .lit (.int .u8 0)], .agg [.lit (.int .u8 0), .lit (.int .u8 0)], .agg [.lit (.int .u8 0), .lit (.int .u8 0)], .agg [.lit (.int .u8 0), .lit (.int .u8 0)], .agg [.lit (.int .u8 0), .lit (.int .u8 0)], .agg [.lit (.int .u8 0), .lit (.int .u8 0)], .agg [.lit (.int .u8 0), .lit (.int .u8 0)], .agg [.lit (.int .u8 0), .lit (.int .u8 0)], .agg [.lit (.int .u8 0), .lit (.int .u8 0)], .agg [.lit (.int .u8 0), .lit (.int .u8 0)], .agg [.lit (.int .u8 0), .lit (.int .u8 0)]]
/-- One of Go's own tables, pinned by name: the form's constant. -/
def laid_unicode_utf8_first : DataW Unit := Go.Pinned.utf8First
def laid_loop_example_g03015_impl_testSigns {H : Type} : DataW H := .agg [.lit (.string [32, 61, 32]), .lit (.string [32, 33, 61, 32]), .lit (.string [32, 60, 32])]
def laid_strconv_ErrRange {H : Type} : DataW H := .iface "*errors.errorString" (.ptr (.agg [.lit (.string [118, 97, 108, 117, 101, 32, 111, 117, 116, 32, 111, 102, 32, 114, 97, 110, 103, 101])]))
def laid_strconv_ErrSyntax {H : Type} : DataW H := .iface "*errors.errorString" (.ptr (.agg [.lit (.string [105, 110, 118, 97, 108, 105, 100, 32, 115, 121, 110, 116, 97, 120])]))

/-- 'laws.FnExactFormatInt': WHATEVER THE INPUT: true; the input reads as it did. -/
def fnExactFormatIntSpec : ChangeSpec := { name := "fnExactFormatInt", fn := fun _ => fun
  | [d] => { results := [.lit (.bool true)], args := [d] }
  | _ => none }
def fnExactFormatIntRow : OpenClaim := { program := "ytbflhchmaoigdaadoor", sum := "0a13be14898475bb64f35f2b1f5234c8b355aeebd8b54dd671c4d1fdd1260423", func := "loop.example/g03015/laws.FnExactFormatInt", spec := "fnExactFormatInt", recurses := true, named := ["internal/strconv.uint64pow10", "math/bits.deBruijn32tab", "math/bits.deBruijn64tab"], apart := false, laid := [("math/bits.deBruijn32tab", laid_math_bits_deBruijn32tab), ("math/bits.deBruijn64tab", laid_math_bits_deBruijn64tab), ("internal/strconv.uint64pow10", laid_internal_strconv_uint64pow10)] }
def FnExactFormatIntSaid : Prop := fnExactFormatIntRow.holds Tryd.pinned (OpenSpec.ofChange fnExactFormatIntSpec)

/-- ITS FALSE NEIGHBOUR: 'it returns false'. Refute it at one input. -/
def fnExactFormatIntWrong : ChangeSpec := { name := "fnExactFormatInt", fn := fun _ => fun
  | [d] => { results := [.lit (.bool false)], args := [d] }
  | _ => none }
def FnExactFormatIntWrongFalsely : Prop := fnExactFormatIntRow.holds Tryd.pinned (OpenSpec.ofChange fnExactFormatIntWrong)

/-- 'laws.FnExactSplit': WHATEVER THE INPUT: true; the input reads as it did. -/
def fnExactSplitSpec : ChangeSpec := { name := "fnExactSplit", fn := fun _ => fun
  | [d1, d2] => { results := [.lit (.bool true)], args := [d1, d2] }
  | _ => none }
def fnExactSplitRow : OpenClaim := { program := "ytbflhchmaoigdaadoor", sum := "0a13be14898475bb64f35f2b1f5234c8b355aeebd8b54dd671c4d1fdd1260423", func := "loop.example/g03015/laws.FnExactSplit", spec := "fnExactSplit", inPlace := ["internal/bytealg.CountString", "internal/bytealg.IndexByteString", "internal/bytealg.IndexString"], named := ["unicode/utf8.first", "unicode/utf8.acceptRanges", "internal/bytealg.MaxLen"], apart := false, laid := [("unicode/utf8.acceptRanges", laid_unicode_utf8_acceptRanges), ("unicode/utf8.first", laid_unicode_utf8_first)] }
def FnExactSplitSaid : Prop := fnExactSplitRow.holds Tryd.pinned (OpenSpec.ofChange fnExactSplitSpec)

/-- ITS FALSE NEIGHBOUR: 'it returns false'. Refute it at one input. -/
def fnExactSplitWrong : ChangeSpec := { name := "fnExactSplit", fn := fun _ => fun
  | [d1, d2] => { results := [.lit (.bool false)], args := [d1, d2] }
  | _ => none }
def FnExactSplitWrongFalsely : Prop := fnExactSplitRow.holds Tryd.pinned (OpenSpec.ofChange fnExactSplitWrong)

/-- 'laws.FnExactFormatCond': WHATEVER THE INPUT: true; the input reads as it did. -/
def fnExactFormatCondSpec : ChangeSpec := { name := "fnExactFormatCond", vars := ["loop.example/g03015/impl.testSigns"], fn := fun _ => fun
  | [d, g1] => { results := [.lit (.bool true)], args := [d], vars := [g1] }
  | _ => none }
def fnExactFormatCondRow : OpenClaim := { program := "ytbflhchmaoigdaadoor", sum := "0a13be14898475bb64f35f2b1f5234c8b355aeebd8b54dd671c4d1fdd1260423", func := "loop.example/g03015/laws.FnExactFormatCond", spec := "fnExactFormatCond", inPlace := ["internal/abi.NoEscape", "internal/bytealg.MakeNoZero"], named := ["loop.example/g03015/impl.testSigns"], apart := false, laid := [("loop.example/g03015/impl.testSigns", laid_loop_example_g03015_impl_testSigns)] }
def FnExactFormatCondSaid : Prop := fnExactFormatCondRow.holds Tryd.pinned (OpenSpec.ofChange fnExactFormatCondSpec)

/-- ITS FALSE NEIGHBOUR: 'it returns false'. Refute it at one input. -/
def fnExactFormatCondWrong : ChangeSpec := { name := "fnExactFormatCond", vars := ["loop.example/g03015/impl.testSigns"], fn := fun _ => fun
  | [d, g1] => { results := [.lit (.bool false)], args := [d], vars := [g1] }
  | _ => none }
def FnExactFormatCondWrongFalsely : Prop := fnExactFormatCondRow.holds Tryd.pinned (OpenSpec.ofChange fnExactFormatCondWrong)

/-- 'laws.FnPatternText': WHATEVER THE INPUT: true; the input reads as it did. -/
def fnPatternTextSpec : ChangeSpec := { name := "fnPatternText", fn := fun _ => fun
  | [d] => { results := [.lit (.bool true)], args := [d] }
  | _ => none }
def fnPatternTextRow : OpenClaim := { program := "ytbflhchmaoigdaadoor", sum := "0a13be14898475bb64f35f2b1f5234c8b355aeebd8b54dd671c4d1fdd1260423", func := "loop.example/g03015/laws.FnPatternText", spec := "fnPatternText", inPlace := ["internal/abi.NoEscape", "internal/bytealg.MakeNoZero", "internal/bytealg.IndexByteString", "internal/bytealg.IndexString", "internal/bytealg.CountString"], named := ["internal/bytealg.MaxLen", "unicode/utf8.first", "unicode/utf8.acceptRanges"], apart := false, laid := [("unicode/utf8.acceptRanges", laid_unicode_utf8_acceptRanges), ("unicode/utf8.first", laid_unicode_utf8_first)] }
def FnPatternTextSaid : Prop := fnPatternTextRow.holds Tryd.pinned (OpenSpec.ofChange fnPatternTextSpec)

/-- ITS FALSE NEIGHBOUR: 'it returns false'. Refute it at one input. -/
def fnPatternTextWrong : ChangeSpec := { name := "fnPatternText", fn := fun _ => fun
  | [d] => { results := [.lit (.bool false)], args := [d] }
  | _ => none }
def FnPatternTextWrongFalsely : Prop := fnPatternTextRow.holds Tryd.pinned (OpenSpec.ofChange fnPatternTextWrong)

/-- 'laws.FnExactParseFact': WHATEVER THE INPUT: true; the input reads as it did. -/
def fnExactParseFactSpec : ChangeSpec := { name := "fnExactParseFact", fn := fun _ => fun
  | [d] => { results := [.lit (.bool true)], args := [d] }
  | _ => none }
def fnExactParseFactRow : OpenClaim := { program := "ytbflhchmaoigdaadoor", sum := "0a13be14898475bb64f35f2b1f5234c8b355aeebd8b54dd671c4d1fdd1260423", func := "loop.example/g03015/laws.FnExactParseFact", spec := "fnExactParseFact", inPlace := ["internal/bytealg.IndexByteString", "internal/bytealg.IndexString", "internal/bytealg.CountString", "internal/abi.NoEscape", "internal/bytealg.MakeNoZero"], named := ["internal/bytealg.MaxLen", "unicode/utf8.first", "unicode/utf8.acceptRanges"], apart := false, laid := [("unicode/utf8.acceptRanges", laid_unicode_utf8_acceptRanges), ("unicode/utf8.first", laid_unicode_utf8_first)] }
def FnExactParseFactSaid : Prop := fnExactParseFactRow.holds Tryd.pinned (OpenSpec.ofChange fnExactParseFactSpec)

/-- ITS FALSE NEIGHBOUR: 'it returns false'. Refute it at one input. -/
def fnExactParseFactWrong : ChangeSpec := { name := "fnExactParseFact", fn := fun _ => fun
  | [d] => { results := [.lit (.bool false)], args := [d] }
  | _ => none }
def FnExactParseFactWrongFalsely : Prop := fnExactParseFactRow.holds Tryd.pinned (OpenSpec.ofChange fnExactParseFactWrong)

/-- 'laws.FnExactParsePattern': WHATEVER THE INPUT: true; the input reads as it did. -/
def fnExactParsePatternSpec : ChangeSpec := { name := "fnExactParsePattern", fn := fun _ => fun
  | [d] => { results := [.lit (.bool true)], args := [d] }
  | _ => none }
def fnExactParsePatternRow : OpenClaim := { program := "ytbflhchmaoigdaadoor", sum := "0a13be14898475bb64f35f2b1f5234c8b355aeebd8b54dd671c4d1fdd1260423", func := "loop.example/g03015/laws.FnExactParsePattern", spec := "fnExactParsePattern", inPlace := ["internal/bytealg.IndexByteString", "internal/bytealg.IndexString", "internal/bytealg.CountString", "internal/abi.NoEscape", "internal/bytealg.MakeNoZero"], named := ["internal/bytealg.MaxLen", "unicode/utf8.first", "unicode/utf8.acceptRanges"], apart := false, laid := [("unicode/utf8.acceptRanges", laid_unicode_utf8_acceptRanges), ("unicode/utf8.first", laid_unicode_utf8_first)] }
def FnExactParsePatternSaid : Prop := fnExactParsePatternRow.holds Tryd.pinned (OpenSpec.ofChange fnExactParsePatternSpec)

/-- ITS FALSE NEIGHBOUR: 'it returns false'. Refute it at one input. -/
def fnExactParsePatternWrong : ChangeSpec := { name := "fnExactParsePattern", fn := fun _ => fun
  | [d] => { results := [.lit (.bool false)], args := [d] }
  | _ => none }
def FnExactParsePatternWrongFalsely : Prop := fnExactParsePatternRow.holds Tryd.pinned (OpenSpec.ofChange fnExactParsePatternWrong)

/-- 'laws.FnExactParseFacts': WHATEVER THE INPUT: true; the input reads as it did. -/
def fnExactParseFactsSpec : ChangeSpec := { name := "fnExactParseFacts", fn := fun _ => fun
  | [d] => { results := [.lit (.bool true)], args := [d] }
  | _ => none }
def fnExactParseFactsRow : OpenClaim := { program := "ytbflhchmaoigdaadoor", sum := "0a13be14898475bb64f35f2b1f5234c8b355aeebd8b54dd671c4d1fdd1260423", func := "loop.example/g03015/laws.FnExactParseFacts", spec := "fnExactParseFacts", inPlace := ["internal/bytealg.CountString", "internal/bytealg.IndexByteString", "internal/bytealg.IndexString", "internal/abi.NoEscape", "internal/bytealg.MakeNoZero"], named := ["unicode/utf8.first", "unicode/utf8.acceptRanges", "internal/bytealg.MaxLen"], apart := false, laid := [("unicode/utf8.acceptRanges", laid_unicode_utf8_acceptRanges), ("unicode/utf8.first", laid_unicode_utf8_first)] }
def FnExactParseFactsSaid : Prop := fnExactParseFactsRow.holds Tryd.pinned (OpenSpec.ofChange fnExactParseFactsSpec)

/-- ITS FALSE NEIGHBOUR: 'it returns false'. Refute it at one input. -/
def fnExactParseFactsWrong : ChangeSpec := { name := "fnExactParseFacts", fn := fun _ => fun
  | [d] => { results := [.lit (.bool false)], args := [d] }
  | _ => none }
def FnExactParseFactsWrongFalsely : Prop := fnExactParseFactsRow.holds Tryd.pinned (OpenSpec.ofChange fnExactParseFactsWrong)

/-- 'laws.FnCondText': WHATEVER THE INPUT: true; the input reads as it did. -/
def fnCondTextSpec : ChangeSpec := { name := "fnCondText", vars := ["loop.example/g03015/impl.testSigns"], fn := fun _ => fun
  | [d, g1] => { results := [.lit (.bool true)], args := [d], vars := [g1] }
  | _ => none }
def fnCondTextRow : OpenClaim := { program := "ytbflhchmaoigdaadoor", sum := "0a13be14898475bb64f35f2b1f5234c8b355aeebd8b54dd671c4d1fdd1260423", func := "loop.example/g03015/laws.FnCondText", spec := "fnCondText", inPlace := ["internal/abi.NoEscape", "internal/bytealg.MakeNoZero", "internal/bytealg.IndexByteString", "internal/bytealg.IndexString", "internal/bytealg.CountString"], named := ["loop.example/g03015/impl.testSigns", "internal/bytealg.MaxLen", "unicode/utf8.first", "unicode/utf8.acceptRanges"], apart := false, laid := [("unicode/utf8.acceptRanges", laid_unicode_utf8_acceptRanges), ("loop.example/g03015/impl.testSigns", laid_loop_example_g03015_impl_testSigns), ("unicode/utf8.first", laid_unicode_utf8_first)] }
def FnCondTextSaid : Prop := fnCondTextRow.holds Tryd.pinned (OpenSpec.ofChange fnCondTextSpec)

/-- ITS FALSE NEIGHBOUR: 'it returns false'. Refute it at one input. -/
def fnCondTextWrong : ChangeSpec := { name := "fnCondText", vars := ["loop.example/g03015/impl.testSigns"], fn := fun _ => fun
  | [d, g1] => { results := [.lit (.bool false)], args := [d], vars := [g1] }
  | _ => none }
def FnCondTextWrongFalsely : Prop := fnCondTextRow.holds Tryd.pinned (OpenSpec.ofChange fnCondTextWrong)

/-- 'laws.FnAtoms': WHATEVER THE INPUT: true; the input reads as it did. -/
def fnAtomsSpec : ChangeSpec := { name := "fnAtoms", fn := fun _ => fun
  | [d] => { results := [.lit (.bool true)], args := [d] }
  | _ => none }
def fnAtomsRow : OpenClaim := { program := "ytbflhchmaoigdaadoor", sum := "0a13be14898475bb64f35f2b1f5234c8b355aeebd8b54dd671c4d1fdd1260423", func := "loop.example/g03015/laws.FnAtoms", spec := "fnAtoms", inPlace := ["internal/bytealg.abigen_runtime_cmpstring"], named := ["internal/strconv.uint64pow10", "math/bits.deBruijn32tab", "math/bits.deBruijn64tab", "strconv.ErrSyntax", "strconv.ErrRange"], apart := false, laid := [("math/bits.deBruijn32tab", laid_math_bits_deBruijn32tab), ("math/bits.deBruijn64tab", laid_math_bits_deBruijn64tab), ("internal/strconv.uint64pow10", laid_internal_strconv_uint64pow10), ("strconv.ErrRange", laid_strconv_ErrRange), ("strconv.ErrSyntax", laid_strconv_ErrSyntax)] }
def FnAtomsSaid : Prop := fnAtomsRow.holds Tryd.pinned (OpenSpec.ofChange fnAtomsSpec)

/-- ITS FALSE NEIGHBOUR: 'it returns false'. Refute it at one input. -/
def fnAtomsWrong : ChangeSpec := { name := "fnAtoms", fn := fun _ => fun
  | [d] => { results := [.lit (.bool false)], args := [d] }
  | _ => none }
def FnAtomsWrongFalsely : Prop := fnAtomsRow.holds Tryd.pinned (OpenSpec.ofChange fnAtomsWrong)

/-- 'laws.FnFactText': WHATEVER THE INPUT: true; the input reads as it did. -/
def fnFactTextSpec : ChangeSpec := { name := "fnFactText", fn := fun _ => fun
  | [d] => { results := [.lit (.bool true)], args := [d] }
  | _ => none }
def fnFactTextRow : OpenClaim := { program := "ytbflhchmaoigdaadoor", sum := "0a13be14898475bb64f35f2b1f5234c8b355aeebd8b54dd671c4d1fdd1260423", func := "loop.example/g03015/laws.FnFactText", spec := "fnFactText", inPlace := ["internal/abi.NoEscape", "internal/bytealg.MakeNoZero", "internal/bytealg.IndexByteString", "internal/bytealg.IndexString", "internal/bytealg.CountString"], recurses := true, named := ["internal/bytealg.MaxLen", "unicode/utf8.first", "unicode/utf8.acceptRanges"], apart := false, laid := [("unicode/utf8.acceptRanges", laid_unicode_utf8_acceptRanges), ("unicode/utf8.first", laid_unicode_utf8_first)] }
def FnFactTextSaid : Prop := fnFactTextRow.holds Tryd.pinned (OpenSpec.ofChange fnFactTextSpec)

/-- ITS FALSE NEIGHBOUR: 'it returns false'. Refute it at one input. -/
def fnFactTextWrong : ChangeSpec := { name := "fnFactText", fn := fun _ => fun
  | [d] => { results := [.lit (.bool false)], args := [d] }
  | _ => none }
def FnFactTextWrongFalsely : Prop := fnFactTextRow.holds Tryd.pinned (OpenSpec.ofChange fnFactTextWrong)

/-- 'laws.FnSplit': WHATEVER THE INPUT: true; the input reads as it did. -/
def fnSplitSpec : ChangeSpec := { name := "fnSplit", fn := fun _ => fun
  | [d] => { results := [.lit (.bool true)], args := [d] }
  | _ => none }
def fnSplitRow : OpenClaim := { program := "ytbflhchmaoigdaadoor", sum := "0a13be14898475bb64f35f2b1f5234c8b355aeebd8b54dd671c4d1fdd1260423", func := "loop.example/g03015/laws.FnSplit", spec := "fnSplit", inPlace := ["internal/bytealg.CountString", "internal/bytealg.IndexByteString", "internal/bytealg.IndexString", "internal/abi.NoEscape", "internal/bytealg.MakeNoZero"], recurses := true, named := ["unicode/utf8.first", "unicode/utf8.acceptRanges", "internal/bytealg.MaxLen"], apart := false, laid := [("unicode/utf8.acceptRanges", laid_unicode_utf8_acceptRanges), ("unicode/utf8.first", laid_unicode_utf8_first)] }
def FnSplitSaid : Prop := fnSplitRow.holds Tryd.pinned (OpenSpec.ofChange fnSplitSpec)

/-- ITS FALSE NEIGHBOUR: 'it returns false'. Refute it at one input. -/
def fnSplitWrong : ChangeSpec := { name := "fnSplit", fn := fun _ => fun
  | [d] => { results := [.lit (.bool false)], args := [d] }
  | _ => none }
def FnSplitWrongFalsely : Prop := fnSplitRow.holds Tryd.pinned (OpenSpec.ofChange fnSplitWrong)

/- THE SECOND FORM. 'bulk': how many values and letters a reading holds, each counted each time it is reached (what is shared counts as often as it is met; a slice's spare places count too). A statement '..UptoSaid' is the law's where the arguments, and the package variables that the reading takes, are together of bulk at most 1048576: NARROWER than '..Said'. Prove '..Said' where nothing that the law and all that it calls make is longer than what came in: it says more and counts as full. Else prove '..UptoSaid'. A law counts once. -/
mutual
def uptoBulk {H : Type} : DataW H → Nat
  | .lit (.string bytes) => bytes.length + 1
  | .lit _ => 1
  | .nil => 1
  | .ptr d => uptoBulk d + 1
  | .slice elems spare => uptoBulkAll elems + uptoBulkAll spare + 1
  | .agg parts => uptoBulkAll parts + 1
  | .iface _ d => uptoBulk d + 1
  | .map entries => uptoBulkEntries entries + 1
  | .held _ => 1
def uptoBulkAll {H : Type} : List (DataW H) → Nat
  | [] => 0
  | d :: r => uptoBulk d + uptoBulkAll r
def uptoBulkEntries {H : Type} : List (Lit × DataW H) → Nat
  | [] => 0
  | x :: r => uptoBulkEntry x + uptoBulkEntries r
def uptoBulkEntry {H : Type} : Lit × DataW H → Nat
  | (.string bytes, d) => bytes.length + uptoBulk d + 1
  | (_, d) => uptoBulk d + 1
 end
def uptoSmall : (H : Type) → List (DataW H) → Bool := fun _ ds => decide (uptoBulkAll ds ≤ 1048576)
def OpenSpec.upto (s : _root_.Go.ChangeSpec) : _root_.Go.OpenSpec := { _root_.Go.OpenSpec.ofChange s with cond := some uptoSmall }

/-- 'laws.FnExactFormatInt', WHERE WHAT IT READS IS OF BULK AT MOST 1048576: true; the input reads as it did. -/
def fnExactFormatIntUptoRow : OpenClaim := { program := "ytbflhchmaoigdaadoor", sum := "0a13be14898475bb64f35f2b1f5234c8b355aeebd8b54dd671c4d1fdd1260423", func := "loop.example/g03015/laws.FnExactFormatInt", spec := "fnExactFormatInt", recurses := true, named := ["internal/strconv.uint64pow10", "math/bits.deBruijn32tab", "math/bits.deBruijn64tab"], apart := false, laid := [("math/bits.deBruijn32tab", laid_math_bits_deBruijn32tab), ("math/bits.deBruijn64tab", laid_math_bits_deBruijn64tab), ("internal/strconv.uint64pow10", laid_internal_strconv_uint64pow10)], narrowed := true }
def FnExactFormatIntUptoSaid : Prop := fnExactFormatIntUptoRow.holds Tryd.pinned (OpenSpec.upto fnExactFormatIntSpec)

/-- 'laws.FnExactSplit', WHERE WHAT IT READS IS OF BULK AT MOST 1048576: true; the input reads as it did. -/
def fnExactSplitUptoRow : OpenClaim := { program := "ytbflhchmaoigdaadoor", sum := "0a13be14898475bb64f35f2b1f5234c8b355aeebd8b54dd671c4d1fdd1260423", func := "loop.example/g03015/laws.FnExactSplit", spec := "fnExactSplit", inPlace := ["internal/bytealg.CountString", "internal/bytealg.IndexByteString", "internal/bytealg.IndexString"], named := ["unicode/utf8.first", "unicode/utf8.acceptRanges", "internal/bytealg.MaxLen"], apart := false, laid := [("unicode/utf8.acceptRanges", laid_unicode_utf8_acceptRanges), ("unicode/utf8.first", laid_unicode_utf8_first)], narrowed := true }
def FnExactSplitUptoSaid : Prop := fnExactSplitUptoRow.holds Tryd.pinned (OpenSpec.upto fnExactSplitSpec)

/-- 'laws.FnExactFormatCond', WHERE WHAT IT READS IS OF BULK AT MOST 1048576: true; the input reads as it did. -/
def fnExactFormatCondUptoRow : OpenClaim := { program := "ytbflhchmaoigdaadoor", sum := "0a13be14898475bb64f35f2b1f5234c8b355aeebd8b54dd671c4d1fdd1260423", func := "loop.example/g03015/laws.FnExactFormatCond", spec := "fnExactFormatCond", inPlace := ["internal/abi.NoEscape", "internal/bytealg.MakeNoZero"], named := ["loop.example/g03015/impl.testSigns"], apart := false, laid := [("loop.example/g03015/impl.testSigns", laid_loop_example_g03015_impl_testSigns)], narrowed := true }
def FnExactFormatCondUptoSaid : Prop := fnExactFormatCondUptoRow.holds Tryd.pinned (OpenSpec.upto fnExactFormatCondSpec)

/-- 'laws.FnPatternText', WHERE WHAT IT READS IS OF BULK AT MOST 1048576: true; the input reads as it did. -/
def fnPatternTextUptoRow : OpenClaim := { program := "ytbflhchmaoigdaadoor", sum := "0a13be14898475bb64f35f2b1f5234c8b355aeebd8b54dd671c4d1fdd1260423", func := "loop.example/g03015/laws.FnPatternText", spec := "fnPatternText", inPlace := ["internal/abi.NoEscape", "internal/bytealg.MakeNoZero", "internal/bytealg.IndexByteString", "internal/bytealg.IndexString", "internal/bytealg.CountString"], named := ["internal/bytealg.MaxLen", "unicode/utf8.first", "unicode/utf8.acceptRanges"], apart := false, laid := [("unicode/utf8.acceptRanges", laid_unicode_utf8_acceptRanges), ("unicode/utf8.first", laid_unicode_utf8_first)], narrowed := true }
def FnPatternTextUptoSaid : Prop := fnPatternTextUptoRow.holds Tryd.pinned (OpenSpec.upto fnPatternTextSpec)

/-- 'laws.FnExactParseFact', WHERE WHAT IT READS IS OF BULK AT MOST 1048576: true; the input reads as it did. -/
def fnExactParseFactUptoRow : OpenClaim := { program := "ytbflhchmaoigdaadoor", sum := "0a13be14898475bb64f35f2b1f5234c8b355aeebd8b54dd671c4d1fdd1260423", func := "loop.example/g03015/laws.FnExactParseFact", spec := "fnExactParseFact", inPlace := ["internal/bytealg.IndexByteString", "internal/bytealg.IndexString", "internal/bytealg.CountString", "internal/abi.NoEscape", "internal/bytealg.MakeNoZero"], named := ["internal/bytealg.MaxLen", "unicode/utf8.first", "unicode/utf8.acceptRanges"], apart := false, laid := [("unicode/utf8.acceptRanges", laid_unicode_utf8_acceptRanges), ("unicode/utf8.first", laid_unicode_utf8_first)], narrowed := true }
def FnExactParseFactUptoSaid : Prop := fnExactParseFactUptoRow.holds Tryd.pinned (OpenSpec.upto fnExactParseFactSpec)

/-- 'laws.FnExactParsePattern', WHERE WHAT IT READS IS OF BULK AT MOST 1048576: true; the input reads as it did. -/
def fnExactParsePatternUptoRow : OpenClaim := { program := "ytbflhchmaoigdaadoor", sum := "0a13be14898475bb64f35f2b1f5234c8b355aeebd8b54dd671c4d1fdd1260423", func := "loop.example/g03015/laws.FnExactParsePattern", spec := "fnExactParsePattern", inPlace := ["internal/bytealg.IndexByteString", "internal/bytealg.IndexString", "internal/bytealg.CountString", "internal/abi.NoEscape", "internal/bytealg.MakeNoZero"], named := ["internal/bytealg.MaxLen", "unicode/utf8.first", "unicode/utf8.acceptRanges"], apart := false, laid := [("unicode/utf8.acceptRanges", laid_unicode_utf8_acceptRanges), ("unicode/utf8.first", laid_unicode_utf8_first)], narrowed := true }
def FnExactParsePatternUptoSaid : Prop := fnExactParsePatternUptoRow.holds Tryd.pinned (OpenSpec.upto fnExactParsePatternSpec)

/-- 'laws.FnExactParseFacts', WHERE WHAT IT READS IS OF BULK AT MOST 1048576: true; the input reads as it did. -/
def fnExactParseFactsUptoRow : OpenClaim := { program := "ytbflhchmaoigdaadoor", sum := "0a13be14898475bb64f35f2b1f5234c8b355aeebd8b54dd671c4d1fdd1260423", func := "loop.example/g03015/laws.FnExactParseFacts", spec := "fnExactParseFacts", inPlace := ["internal/bytealg.CountString", "internal/bytealg.IndexByteString", "internal/bytealg.IndexString", "internal/abi.NoEscape", "internal/bytealg.MakeNoZero"], named := ["unicode/utf8.first", "unicode/utf8.acceptRanges", "internal/bytealg.MaxLen"], apart := false, laid := [("unicode/utf8.acceptRanges", laid_unicode_utf8_acceptRanges), ("unicode/utf8.first", laid_unicode_utf8_first)], narrowed := true }
def FnExactParseFactsUptoSaid : Prop := fnExactParseFactsUptoRow.holds Tryd.pinned (OpenSpec.upto fnExactParseFactsSpec)

/-- 'laws.FnCondText', WHERE WHAT IT READS IS OF BULK AT MOST 1048576: true; the input reads as it did. -/
def fnCondTextUptoRow : OpenClaim := { program := "ytbflhchmaoigdaadoor", sum := "0a13be14898475bb64f35f2b1f5234c8b355aeebd8b54dd671c4d1fdd1260423", func := "loop.example/g03015/laws.FnCondText", spec := "fnCondText", inPlace := ["internal/abi.NoEscape", "internal/bytealg.MakeNoZero", "internal/bytealg.IndexByteString", "internal/bytealg.IndexString", "internal/bytealg.CountString"], named := ["loop.example/g03015/impl.testSigns", "internal/bytealg.MaxLen", "unicode/utf8.first", "unicode/utf8.acceptRanges"], apart := false, laid := [("unicode/utf8.acceptRanges", laid_unicode_utf8_acceptRanges), ("loop.example/g03015/impl.testSigns", laid_loop_example_g03015_impl_testSigns), ("unicode/utf8.first", laid_unicode_utf8_first)], narrowed := true }
def FnCondTextUptoSaid : Prop := fnCondTextUptoRow.holds Tryd.pinned (OpenSpec.upto fnCondTextSpec)

/-- 'laws.FnAtoms', WHERE WHAT IT READS IS OF BULK AT MOST 1048576: true; the input reads as it did. -/
def fnAtomsUptoRow : OpenClaim := { program := "ytbflhchmaoigdaadoor", sum := "0a13be14898475bb64f35f2b1f5234c8b355aeebd8b54dd671c4d1fdd1260423", func := "loop.example/g03015/laws.FnAtoms", spec := "fnAtoms", inPlace := ["internal/bytealg.abigen_runtime_cmpstring"], named := ["internal/strconv.uint64pow10", "math/bits.deBruijn32tab", "math/bits.deBruijn64tab", "strconv.ErrSyntax", "strconv.ErrRange"], apart := false, laid := [("math/bits.deBruijn32tab", laid_math_bits_deBruijn32tab), ("math/bits.deBruijn64tab", laid_math_bits_deBruijn64tab), ("internal/strconv.uint64pow10", laid_internal_strconv_uint64pow10), ("strconv.ErrRange", laid_strconv_ErrRange), ("strconv.ErrSyntax", laid_strconv_ErrSyntax)], narrowed := true }
def FnAtomsUptoSaid : Prop := fnAtomsUptoRow.holds Tryd.pinned (OpenSpec.upto fnAtomsSpec)

/-- 'laws.FnFactText', WHERE WHAT IT READS IS OF BULK AT MOST 1048576: true; the input reads as it did. -/
def fnFactTextUptoRow : OpenClaim := { program := "ytbflhchmaoigdaadoor", sum := "0a13be14898475bb64f35f2b1f5234c8b355aeebd8b54dd671c4d1fdd1260423", func := "loop.example/g03015/laws.FnFactText", spec := "fnFactText", inPlace := ["internal/abi.NoEscape", "internal/bytealg.MakeNoZero", "internal/bytealg.IndexByteString", "internal/bytealg.IndexString", "internal/bytealg.CountString"], recurses := true, named := ["internal/bytealg.MaxLen", "unicode/utf8.first", "unicode/utf8.acceptRanges"], apart := false, laid := [("unicode/utf8.acceptRanges", laid_unicode_utf8_acceptRanges), ("unicode/utf8.first", laid_unicode_utf8_first)], narrowed := true }
def FnFactTextUptoSaid : Prop := fnFactTextUptoRow.holds Tryd.pinned (OpenSpec.upto fnFactTextSpec)

/-- 'laws.FnSplit', WHERE WHAT IT READS IS OF BULK AT MOST 1048576: true; the input reads as it did. -/
def fnSplitUptoRow : OpenClaim := { program := "ytbflhchmaoigdaadoor", sum := "0a13be14898475bb64f35f2b1f5234c8b355aeebd8b54dd671c4d1fdd1260423", func := "loop.example/g03015/laws.FnSplit", spec := "fnSplit", inPlace := ["internal/bytealg.CountString", "internal/bytealg.IndexByteString", "internal/bytealg.IndexString", "internal/abi.NoEscape", "internal/bytealg.MakeNoZero"], recurses := true, named := ["unicode/utf8.first", "unicode/utf8.acceptRanges", "internal/bytealg.MaxLen"], apart := false, laid := [("unicode/utf8.acceptRanges", laid_unicode_utf8_acceptRanges), ("unicode/utf8.first", laid_unicode_utf8_first)], narrowed := true }
def FnSplitUptoSaid : Prop := fnSplitUptoRow.holds Tryd.pinned (OpenSpec.upto fnSplitSpec)

end Rows
end Go.Proofs.YtbflhchmaoigdaaDoor
