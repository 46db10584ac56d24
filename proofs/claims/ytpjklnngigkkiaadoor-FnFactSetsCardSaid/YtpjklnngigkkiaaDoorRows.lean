/-
  NARROWER THAN 'FOR EVERY INPUT', by the rows' own cells (each row's printed sentence says how): FnExactAddFact: laid · FnNotHas: laid · FnExactHoldsCond: laid · FnFactOrder: laid · FnTests: laid · FnExactAreFacts: laid · FnFactSets: laid · FnExactHoldsTest: laid · FnExactRemoveFact: laid.
  DERIVED. THE GIVEN ROWS OF THIS SEAT. 9 by the template 'for every input the law returns true; each argument reads behind the call as it read before'; 0 by the template 'total and deterministic' (their statements: YtpjklnngigkkiaaDoorTotals.lean).
  GIVEN WITH THE SEED: the statements are not yours to turn. If you find one false, say at which input.
  Laid BY PROGRAM, IN A SANDBOX (cutbox-rows.mjs): the forced cells as the released guide's own fill.sh prints them over the translation 7f4f0f3723c18a86… (all of the seat's roots in one cut). By AI agents, Wed Nov 11 2026. No macro, syntax, notation, axiom, sorry.
-/
import Derived.Test.YtpjklnngigkkiaaDoorChecked
import GoSem.Claim
import GoSem.ClaimJoined
import GoSem.ClaimMapViews
import Derived.JoinedTies
import Derived.KernelRfl
namespace Go.Proofs.YtpjklnngigkkiaaDoor
/- THE CELL 'sum', in the pinned program and in every row, IS THE sha256 OF THE DUMP (.gsa) THAT YtpjklnngigkkiaaDoorProg.lean LOADS. Nothing in Lean hashes anything: it is a label: what it is worth is what the hold of that sum in a sandbox is worth. -/
noncomputable def Tryd.pinned : Pinned := { name := "ytpjklnngigkkiaadoor", sum := "7f4f0f3723c18a86bcc53ddcf94a92aa7524884fe36d9455df4852f9f0bbe6b5", checked := Tryd.checked }
namespace Rows
def none {H : Type} : Left H := { results := [], args := [] }

/- WHAT THE LISTED PACKAGE-LEVEL VARIABLES READ AS WHEN THE CALL BEGINS. Each datum BY PROGRAM (the guide's laid-datum.mjs) off the statement by which the dump's own 'gosem.cut.vars' lays the variable. In a bare row this is a premise. The card (YtpjklnngigkkiaaDoorCards.lean) ties it to the program's text. -/
def laid_math_bits_deBruijn32tab {H : Type} : DataW H := .agg [.lit (.int .u8 0), .lit (.int .u8 1), .lit (.int .u8 28), .lit (.int .u8 2), .lit (.int .u8 29), .lit (.int .u8 14), .lit (.int .u8 24), .lit (.int .u8 3), .lit (.int .u8 30), .lit (.int .u8 22), .lit (.int .u8 20), .lit (.int .u8 15), .lit (.int .u8 25), .lit (.int .u8 17), .lit (.int .u8 4), .lit (.int .u8 8), .lit (.int .u8 31), .lit (.int .u8 27), .lit (.int .u8 13), .lit (.int .u8 23), .lit (.int .u8 21), .lit (.int .u8 19), .lit (.int .u8 16), .lit (.int .u8 7), .lit (.int .u8 26), .lit (.int .u8 12), .lit (.int .u8 18), .lit (.int .u8 6), .lit (.int .u8 11), .lit (.int .u8 5), .lit (.int .u8 10), .lit (.int .u8 9)]
def laid_math_bits_deBruijn64tab {H : Type} : DataW H := .agg [.lit (.int .u8 0), .lit (.int .u8 1), .lit (.int .u8 56), .lit (.int .u8 2), .lit (.int .u8 57), .lit (.int .u8 49), .lit (.int .u8 28), .lit (.int .u8 3), .lit (.int .u8 61), .lit (.int .u8 58), .lit (.int .u8 42), .lit (.int .u8 50), .lit (.int .u8 38), .lit (.int .u8 29), .lit (.int .u8 17), .lit (.int .u8 4), .lit (.int .u8 62), .lit (.int .u8 47), .lit (.int .u8 59), .lit (.int .u8 36), .lit (.int .u8 45), .lit (.int .u8 43), .lit (.int .u8 51), .lit (.int .u8 22), .lit (.int .u8 53), .lit (.int .u8 39), .lit (.int .u8 33), .lit (.int .u8 30), .lit (.int .u8 24), .lit (.int .u8 18), .lit (.int .u8 12), .lit (.int .u8 5), .lit (.int .u8 63), .lit (.int .u8 55), .lit (.int .u8 48), .lit (.int .u8 27), .lit (.int .u8 60), .lit (.int .u8 41), .lit (.int .u8 37), .lit (.int .u8 16), .lit (.int .u8 46), .lit (.int .u8 35), .lit (.int .u8 44), .lit (.int .u8 21), .lit (.int .u8 52), .lit (.int .u8 32), .lit (.int .u8 23), .lit (.int .u8 11), .lit (.int .u8 54), .lit (.int .u8 26), .lit (.int .u8 40), .lit (.int .u8 15), .lit (.int .u8 34), .lit (.int .u8 20), .lit (.int .u8 31), .lit (.int .u8 10), .lit (.int .u8 25), .lit (.int .u8 14), .lit (.int .u8 19), .lit (.int .u8 9), .lit (.int .u8 13), .lit (.int .u8 8), .lit (.int .u8 7), .lit (.int .u8 6)]
def laid_internal_strconv_uint64pow10 {H : Type} : DataW H := .agg [.lit (.int .u64 1), .lit (.int .u64 10), .lit (.int .u64 100), .lit (.int .u64 1000), .lit (.int .u64 10000), .lit (.int .u64 100000), .lit (.int .u64 1000000), .lit (.int .u64 10000000), .lit (.int .u64 100000000), .lit (.int .u64 1000000000), .lit (.int .u64 10000000000), .lit (.int .u64 100000000000), .lit (.int .u64 1000000000000), .lit (.int .u64 10000000000000), .lit (.int .u64 100000000000000), .lit (.int .u64 1000000000000000), .lit (.int .u64 10000000000000000), .lit (.int .u64 100000000000000000), .lit (.int .u64 1000000000000000000), .lit (.int .u64 10000000000000000000)]
def laid_strconv_ErrRange {H : Type} : DataW H := .iface "*errors.errorString" (.ptr (.agg [.lit (.string [118, 97, 108, 117, 101, 32, 111, 117, 116, 32, 111, 102, 32, 114, 97, 110, 103, 101])]))
def laid_strconv_ErrSyntax {H : Type} : DataW H := .iface "*errors.errorString" (.ptr (.agg [.lit (.string [105, 110, 118, 97, 108, 105, 100, 32, 115, 121, 110, 116, 97, 120])]))

/-- 'laws.FnExactAddFact': WHATEVER THE INPUT: true; the input reads as it did. -/
def fnExactAddFactSpec : ChangeSpec := { name := "fnExactAddFact", fn := fun _ => fun
  | [d1, d2] => { results := [.lit (.bool true)], args := [d1, d2] }
  | _ => none }
def fnExactAddFactRow : OpenClaim := { program := "ytpjklnngigkkiaadoor", sum := "7f4f0f3723c18a86bcc53ddcf94a92aa7524884fe36d9455df4852f9f0bbe6b5", func := "loop.example/g03015/laws.FnExactAddFact", spec := "fnExactAddFact", inPlace := ["internal/bytealg.abigen_runtime_cmpstring"], recurses := true, named := ["strconv.ErrSyntax", "strconv.ErrRange", "internal/strconv.uint64pow10", "math/bits.deBruijn32tab", "math/bits.deBruijn64tab"], apart := false, laid := [("math/bits.deBruijn32tab", laid_math_bits_deBruijn32tab), ("math/bits.deBruijn64tab", laid_math_bits_deBruijn64tab), ("internal/strconv.uint64pow10", laid_internal_strconv_uint64pow10), ("strconv.ErrRange", laid_strconv_ErrRange), ("strconv.ErrSyntax", laid_strconv_ErrSyntax)] }
def FnExactAddFactSaid : Prop := fnExactAddFactRow.holds Tryd.pinned (OpenSpec.ofChange fnExactAddFactSpec)

/-- ITS FALSE NEIGHBOUR: 'it returns false'. Refute it at one input. -/
def fnExactAddFactWrong : ChangeSpec := { name := "fnExactAddFact", fn := fun _ => fun
  | [d1, d2] => { results := [.lit (.bool false)], args := [d1, d2] }
  | _ => none }
def FnExactAddFactWrongFalsely : Prop := fnExactAddFactRow.holds Tryd.pinned (OpenSpec.ofChange fnExactAddFactWrong)

/-- 'laws.FnNotHas': WHATEVER THE INPUT: true; the input reads as it did. -/
def fnNotHasSpec : ChangeSpec := { name := "fnNotHas", fn := fun _ => fun
  | [d] => { results := [.lit (.bool true)], args := [d] }
  | _ => none }
def fnNotHasRow : OpenClaim := { program := "ytpjklnngigkkiaadoor", sum := "7f4f0f3723c18a86bcc53ddcf94a92aa7524884fe36d9455df4852f9f0bbe6b5", func := "loop.example/g03015/laws.FnNotHas", spec := "fnNotHas", recurses := true, named := ["strconv.ErrSyntax", "strconv.ErrRange", "internal/strconv.uint64pow10", "math/bits.deBruijn32tab", "math/bits.deBruijn64tab"], apart := false, laid := [("math/bits.deBruijn32tab", laid_math_bits_deBruijn32tab), ("math/bits.deBruijn64tab", laid_math_bits_deBruijn64tab), ("internal/strconv.uint64pow10", laid_internal_strconv_uint64pow10), ("strconv.ErrRange", laid_strconv_ErrRange), ("strconv.ErrSyntax", laid_strconv_ErrSyntax)] }
def FnNotHasSaid : Prop := fnNotHasRow.holds Tryd.pinned (OpenSpec.ofChange fnNotHasSpec)

/-- ITS FALSE NEIGHBOUR: 'it returns false'. Refute it at one input. -/
def fnNotHasWrong : ChangeSpec := { name := "fnNotHas", fn := fun _ => fun
  | [d] => { results := [.lit (.bool false)], args := [d] }
  | _ => none }
def FnNotHasWrongFalsely : Prop := fnNotHasRow.holds Tryd.pinned (OpenSpec.ofChange fnNotHasWrong)

/-- 'laws.FnExactHoldsCond': WHATEVER THE INPUT: true; the input reads as it did. -/
def fnExactHoldsCondSpec : ChangeSpec := { name := "fnExactHoldsCond", fn := fun _ => fun
  | [d1, d2, d3] => { results := [.lit (.bool true)], args := [d1, d2, d3] }
  | _ => none }
def fnExactHoldsCondRow : OpenClaim := { program := "ytpjklnngigkkiaadoor", sum := "7f4f0f3723c18a86bcc53ddcf94a92aa7524884fe36d9455df4852f9f0bbe6b5", func := "loop.example/g03015/laws.FnExactHoldsCond", spec := "fnExactHoldsCond", recurses := true, named := ["strconv.ErrSyntax", "strconv.ErrRange", "internal/strconv.uint64pow10", "math/bits.deBruijn32tab", "math/bits.deBruijn64tab"], apart := false, laid := [("math/bits.deBruijn32tab", laid_math_bits_deBruijn32tab), ("math/bits.deBruijn64tab", laid_math_bits_deBruijn64tab), ("internal/strconv.uint64pow10", laid_internal_strconv_uint64pow10), ("strconv.ErrRange", laid_strconv_ErrRange), ("strconv.ErrSyntax", laid_strconv_ErrSyntax)] }
def FnExactHoldsCondSaid : Prop := fnExactHoldsCondRow.holds Tryd.pinned (OpenSpec.ofChange fnExactHoldsCondSpec)

/-- ITS FALSE NEIGHBOUR: 'it returns false'. Refute it at one input. -/
def fnExactHoldsCondWrong : ChangeSpec := { name := "fnExactHoldsCond", fn := fun _ => fun
  | [d1, d2, d3] => { results := [.lit (.bool false)], args := [d1, d2, d3] }
  | _ => none }
def FnExactHoldsCondWrongFalsely : Prop := fnExactHoldsCondRow.holds Tryd.pinned (OpenSpec.ofChange fnExactHoldsCondWrong)

/-- 'laws.FnFactOrder': WHATEVER THE INPUT: true; the input reads as it did. -/
def fnFactOrderSpec : ChangeSpec := { name := "fnFactOrder", fn := fun _ => fun
  | [d] => { results := [.lit (.bool true)], args := [d] }
  | _ => none }
def fnFactOrderRow : OpenClaim := { program := "ytpjklnngigkkiaadoor", sum := "7f4f0f3723c18a86bcc53ddcf94a92aa7524884fe36d9455df4852f9f0bbe6b5", func := "loop.example/g03015/laws.FnFactOrder", spec := "fnFactOrder", inPlace := ["internal/bytealg.abigen_runtime_cmpstring"], recurses := true, named := ["strconv.ErrSyntax", "strconv.ErrRange", "internal/strconv.uint64pow10", "math/bits.deBruijn32tab", "math/bits.deBruijn64tab"], apart := false, laid := [("math/bits.deBruijn32tab", laid_math_bits_deBruijn32tab), ("math/bits.deBruijn64tab", laid_math_bits_deBruijn64tab), ("internal/strconv.uint64pow10", laid_internal_strconv_uint64pow10), ("strconv.ErrRange", laid_strconv_ErrRange), ("strconv.ErrSyntax", laid_strconv_ErrSyntax)] }
def FnFactOrderSaid : Prop := fnFactOrderRow.holds Tryd.pinned (OpenSpec.ofChange fnFactOrderSpec)

/-- ITS FALSE NEIGHBOUR: 'it returns false'. Refute it at one input. -/
def fnFactOrderWrong : ChangeSpec := { name := "fnFactOrder", fn := fun _ => fun
  | [d] => { results := [.lit (.bool false)], args := [d] }
  | _ => none }
def FnFactOrderWrongFalsely : Prop := fnFactOrderRow.holds Tryd.pinned (OpenSpec.ofChange fnFactOrderWrong)

/-- 'laws.FnTests': WHATEVER THE INPUT: true; the input reads as it did. -/
def fnTestsSpec : ChangeSpec := { name := "fnTests", fn := fun _ => fun
  | [d] => { results := [.lit (.bool true)], args := [d] }
  | _ => none }
def fnTestsRow : OpenClaim := { program := "ytpjklnngigkkiaadoor", sum := "7f4f0f3723c18a86bcc53ddcf94a92aa7524884fe36d9455df4852f9f0bbe6b5", func := "loop.example/g03015/laws.FnTests", spec := "fnTests", recurses := true, named := ["strconv.ErrSyntax", "strconv.ErrRange", "internal/strconv.uint64pow10", "math/bits.deBruijn32tab", "math/bits.deBruijn64tab"], apart := false, laid := [("math/bits.deBruijn32tab", laid_math_bits_deBruijn32tab), ("math/bits.deBruijn64tab", laid_math_bits_deBruijn64tab), ("internal/strconv.uint64pow10", laid_internal_strconv_uint64pow10), ("strconv.ErrRange", laid_strconv_ErrRange), ("strconv.ErrSyntax", laid_strconv_ErrSyntax)] }
def FnTestsSaid : Prop := fnTestsRow.holds Tryd.pinned (OpenSpec.ofChange fnTestsSpec)

/-- ITS FALSE NEIGHBOUR: 'it returns false'. Refute it at one input. -/
def fnTestsWrong : ChangeSpec := { name := "fnTests", fn := fun _ => fun
  | [d] => { results := [.lit (.bool false)], args := [d] }
  | _ => none }
def FnTestsWrongFalsely : Prop := fnTestsRow.holds Tryd.pinned (OpenSpec.ofChange fnTestsWrong)

/-- 'laws.FnExactAreFacts': WHATEVER THE INPUT: true; the input reads as it did. -/
def fnExactAreFactsSpec : ChangeSpec := { name := "fnExactAreFacts", fn := fun _ => fun
  | [d] => { results := [.lit (.bool true)], args := [d] }
  | _ => none }
def fnExactAreFactsRow : OpenClaim := { program := "ytpjklnngigkkiaadoor", sum := "7f4f0f3723c18a86bcc53ddcf94a92aa7524884fe36d9455df4852f9f0bbe6b5", func := "loop.example/g03015/laws.FnExactAreFacts", spec := "fnExactAreFacts", inPlace := ["internal/bytealg.abigen_runtime_cmpstring"], recurses := true, named := ["strconv.ErrSyntax", "strconv.ErrRange", "internal/strconv.uint64pow10", "math/bits.deBruijn32tab", "math/bits.deBruijn64tab"], apart := false, laid := [("math/bits.deBruijn32tab", laid_math_bits_deBruijn32tab), ("math/bits.deBruijn64tab", laid_math_bits_deBruijn64tab), ("internal/strconv.uint64pow10", laid_internal_strconv_uint64pow10), ("strconv.ErrRange", laid_strconv_ErrRange), ("strconv.ErrSyntax", laid_strconv_ErrSyntax)] }
def FnExactAreFactsSaid : Prop := fnExactAreFactsRow.holds Tryd.pinned (OpenSpec.ofChange fnExactAreFactsSpec)

/-- ITS FALSE NEIGHBOUR: 'it returns false'. Refute it at one input. -/
def fnExactAreFactsWrong : ChangeSpec := { name := "fnExactAreFacts", fn := fun _ => fun
  | [d] => { results := [.lit (.bool false)], args := [d] }
  | _ => none }
def FnExactAreFactsWrongFalsely : Prop := fnExactAreFactsRow.holds Tryd.pinned (OpenSpec.ofChange fnExactAreFactsWrong)

/-- 'laws.FnFactSets': WHATEVER THE INPUT: true; the input reads as it did. -/
def fnFactSetsSpec : ChangeSpec := { name := "fnFactSets", fn := fun _ => fun
  | [d] => { results := [.lit (.bool true)], args := [d] }
  | _ => none }
def fnFactSetsRow : OpenClaim := { program := "ytpjklnngigkkiaadoor", sum := "7f4f0f3723c18a86bcc53ddcf94a92aa7524884fe36d9455df4852f9f0bbe6b5", func := "loop.example/g03015/laws.FnFactSets", spec := "fnFactSets", inPlace := ["internal/bytealg.abigen_runtime_cmpstring"], recurses := true, named := ["strconv.ErrSyntax", "strconv.ErrRange", "internal/strconv.uint64pow10", "math/bits.deBruijn32tab", "math/bits.deBruijn64tab"], apart := false, laid := [("math/bits.deBruijn32tab", laid_math_bits_deBruijn32tab), ("math/bits.deBruijn64tab", laid_math_bits_deBruijn64tab), ("internal/strconv.uint64pow10", laid_internal_strconv_uint64pow10), ("strconv.ErrRange", laid_strconv_ErrRange), ("strconv.ErrSyntax", laid_strconv_ErrSyntax)] }
def FnFactSetsSaid : Prop := fnFactSetsRow.holds Tryd.pinned (OpenSpec.ofChange fnFactSetsSpec)

/-- ITS FALSE NEIGHBOUR: 'it returns false'. Refute it at one input. -/
def fnFactSetsWrong : ChangeSpec := { name := "fnFactSets", fn := fun _ => fun
  | [d] => { results := [.lit (.bool false)], args := [d] }
  | _ => none }
def FnFactSetsWrongFalsely : Prop := fnFactSetsRow.holds Tryd.pinned (OpenSpec.ofChange fnFactSetsWrong)

/-- 'laws.FnExactHoldsTest': WHATEVER THE INPUT: true; the input reads as it did. -/
def fnExactHoldsTestSpec : ChangeSpec := { name := "fnExactHoldsTest", fn := fun _ => fun
  | [d1, d2] => { results := [.lit (.bool true)], args := [d1, d2] }
  | _ => none }
def fnExactHoldsTestRow : OpenClaim := { program := "ytpjklnngigkkiaadoor", sum := "7f4f0f3723c18a86bcc53ddcf94a92aa7524884fe36d9455df4852f9f0bbe6b5", func := "loop.example/g03015/laws.FnExactHoldsTest", spec := "fnExactHoldsTest", recurses := true, named := ["strconv.ErrSyntax", "strconv.ErrRange", "internal/strconv.uint64pow10", "math/bits.deBruijn32tab", "math/bits.deBruijn64tab"], apart := false, laid := [("math/bits.deBruijn32tab", laid_math_bits_deBruijn32tab), ("math/bits.deBruijn64tab", laid_math_bits_deBruijn64tab), ("internal/strconv.uint64pow10", laid_internal_strconv_uint64pow10), ("strconv.ErrRange", laid_strconv_ErrRange), ("strconv.ErrSyntax", laid_strconv_ErrSyntax)] }
def FnExactHoldsTestSaid : Prop := fnExactHoldsTestRow.holds Tryd.pinned (OpenSpec.ofChange fnExactHoldsTestSpec)

/-- ITS FALSE NEIGHBOUR: 'it returns false'. Refute it at one input. -/
def fnExactHoldsTestWrong : ChangeSpec := { name := "fnExactHoldsTest", fn := fun _ => fun
  | [d1, d2] => { results := [.lit (.bool false)], args := [d1, d2] }
  | _ => none }
def FnExactHoldsTestWrongFalsely : Prop := fnExactHoldsTestRow.holds Tryd.pinned (OpenSpec.ofChange fnExactHoldsTestWrong)

/-- 'laws.FnExactRemoveFact': WHATEVER THE INPUT: true; the input reads as it did. -/
def fnExactRemoveFactSpec : ChangeSpec := { name := "fnExactRemoveFact", fn := fun _ => fun
  | [d1, d2] => { results := [.lit (.bool true)], args := [d1, d2] }
  | _ => none }
def fnExactRemoveFactRow : OpenClaim := { program := "ytpjklnngigkkiaadoor", sum := "7f4f0f3723c18a86bcc53ddcf94a92aa7524884fe36d9455df4852f9f0bbe6b5", func := "loop.example/g03015/laws.FnExactRemoveFact", spec := "fnExactRemoveFact", inPlace := ["internal/bytealg.abigen_runtime_cmpstring"], recurses := true, named := ["strconv.ErrSyntax", "strconv.ErrRange", "internal/strconv.uint64pow10", "math/bits.deBruijn32tab", "math/bits.deBruijn64tab"], apart := false, laid := [("math/bits.deBruijn32tab", laid_math_bits_deBruijn32tab), ("math/bits.deBruijn64tab", laid_math_bits_deBruijn64tab), ("internal/strconv.uint64pow10", laid_internal_strconv_uint64pow10), ("strconv.ErrRange", laid_strconv_ErrRange), ("strconv.ErrSyntax", laid_strconv_ErrSyntax)] }
def FnExactRemoveFactSaid : Prop := fnExactRemoveFactRow.holds Tryd.pinned (OpenSpec.ofChange fnExactRemoveFactSpec)

/-- ITS FALSE NEIGHBOUR: 'it returns false'. Refute it at one input. -/
def fnExactRemoveFactWrong : ChangeSpec := { name := "fnExactRemoveFact", fn := fun _ => fun
  | [d1, d2] => { results := [.lit (.bool false)], args := [d1, d2] }
  | _ => none }
def FnExactRemoveFactWrongFalsely : Prop := fnExactRemoveFactRow.holds Tryd.pinned (OpenSpec.ofChange fnExactRemoveFactWrong)

/- THE SECOND FORM. 'bulk': how many values and letters a reading holds, each counted each time it is reached (what is shared counts as often as it is met; a slice's spare places count too). A statement '..UptoSaid' is the law's where the arguments, and the package variables that the reading takes, are together of bulk at most 1048576: NARROWER than '..Said'. Prove '..Said' where nothing that the law and all that it calls make is longer than what came in: it says more and counts as full. Else prove '..UptoSaid'. A law counts once. -/
mutual
def uptoBulk {H : Type} : DataW H → Nat
  | .lit (.string bytes) => bytes.length + 1
  | .lit _ => 1
  | .nil => 1
  | .ptr d => uptoBulk d + 1
  | .slice elems spare => uptoBulkAll elems + uptoBulkAll spare + 1
  | .agg parts => uptoBulkAll parts + 1
  | .iface _ d => uptoBulk d + 1
  | .map entries => uptoBulkEntries entries + 1
  | .held _ => 1
def uptoBulkAll {H : Type} : List (DataW H) → Nat
  | [] => 0
  | d :: r => uptoBulk d + uptoBulkAll r
def uptoBulkEntries {H : Type} : List (Lit × DataW H) → Nat
  | [] => 0
  | x :: r => uptoBulkEntry x + uptoBulkEntries r
def uptoBulkEntry {H : Type} : Lit × DataW H → Nat
  | (.string bytes, d) => bytes.length + uptoBulk d + 1
  | (_, d) => uptoBulk d + 1
 end
def uptoSmall : (H : Type) → List (DataW H) → Bool := fun _ ds => decide (uptoBulkAll ds ≤ 1048576)
def OpenSpec.upto (s : _root_.Go.ChangeSpec) : _root_.Go.OpenSpec := { _root_.Go.OpenSpec.ofChange s with cond := some uptoSmall }

/-- 'laws.FnExactAddFact', WHERE WHAT IT READS IS OF BULK AT MOST 1048576: true; the input reads as it did. -/
def fnExactAddFactUptoRow : OpenClaim := { program := "ytpjklnngigkkiaadoor", sum := "7f4f0f3723c18a86bcc53ddcf94a92aa7524884fe36d9455df4852f9f0bbe6b5", func := "loop.example/g03015/laws.FnExactAddFact", spec := "fnExactAddFact", inPlace := ["internal/bytealg.abigen_runtime_cmpstring"], recurses := true, named := ["strconv.ErrSyntax", "strconv.ErrRange", "internal/strconv.uint64pow10", "math/bits.deBruijn32tab", "math/bits.deBruijn64tab"], apart := false, laid := [("math/bits.deBruijn32tab", laid_math_bits_deBruijn32tab), ("math/bits.deBruijn64tab", laid_math_bits_deBruijn64tab), ("internal/strconv.uint64pow10", laid_internal_strconv_uint64pow10), ("strconv.ErrRange", laid_strconv_ErrRange), ("strconv.ErrSyntax", laid_strconv_ErrSyntax)], narrowed := true }
def FnExactAddFactUptoSaid : Prop := fnExactAddFactUptoRow.holds Tryd.pinned (OpenSpec.upto fnExactAddFactSpec)

/-- 'laws.FnNotHas', WHERE WHAT IT READS IS OF BULK AT MOST 1048576: true; the input reads as it did. -/
def fnNotHasUptoRow : OpenClaim := { program := "ytpjklnngigkkiaadoor", sum := "7f4f0f3723c18a86bcc53ddcf94a92aa7524884fe36d9455df4852f9f0bbe6b5", func := "loop.example/g03015/laws.FnNotHas", spec := "fnNotHas", recurses := true, named := ["strconv.ErrSyntax", "strconv.ErrRange", "internal/strconv.uint64pow10", "math/bits.deBruijn32tab", "math/bits.deBruijn64tab"], apart := false, laid := [("math/bits.deBruijn32tab", laid_math_bits_deBruijn32tab), ("math/bits.deBruijn64tab", laid_math_bits_deBruijn64tab), ("internal/strconv.uint64pow10", laid_internal_strconv_uint64pow10), ("strconv.ErrRange", laid_strconv_ErrRange), ("strconv.ErrSyntax", laid_strconv_ErrSyntax)], narrowed := true }
def FnNotHasUptoSaid : Prop := fnNotHasUptoRow.holds Tryd.pinned (OpenSpec.upto fnNotHasSpec)

/-- 'laws.FnExactHoldsCond', WHERE WHAT IT READS IS OF BULK AT MOST 1048576: true; the input reads as it did. -/
def fnExactHoldsCondUptoRow : OpenClaim := { program := "ytpjklnngigkkiaadoor", sum := "7f4f0f3723c18a86bcc53ddcf94a92aa7524884fe36d9455df4852f9f0bbe6b5", func := "loop.example/g03015/laws.FnExactHoldsCond", spec := "fnExactHoldsCond", recurses := true, named := ["strconv.ErrSyntax", "strconv.ErrRange", "internal/strconv.uint64pow10", "math/bits.deBruijn32tab", "math/bits.deBruijn64tab"], apart := false, laid := [("math/bits.deBruijn32tab", laid_math_bits_deBruijn32tab), ("math/bits.deBruijn64tab", laid_math_bits_deBruijn64tab), ("internal/strconv.uint64pow10", laid_internal_strconv_uint64pow10), ("strconv.ErrRange", laid_strconv_ErrRange), ("strconv.ErrSyntax", laid_strconv_ErrSyntax)], narrowed := true }
def FnExactHoldsCondUptoSaid : Prop := fnExactHoldsCondUptoRow.holds Tryd.pinned (OpenSpec.upto fnExactHoldsCondSpec)

/-- 'laws.FnFactOrder', WHERE WHAT IT READS IS OF BULK AT MOST 1048576: true; the input reads as it did. -/
def fnFactOrderUptoRow : OpenClaim := { program := "ytpjklnngigkkiaadoor", sum := "7f4f0f3723c18a86bcc53ddcf94a92aa7524884fe36d9455df4852f9f0bbe6b5", func := "loop.example/g03015/laws.FnFactOrder", spec := "fnFactOrder", inPlace := ["internal/bytealg.abigen_runtime_cmpstring"], recurses := true, named := ["strconv.ErrSyntax", "strconv.ErrRange", "internal/strconv.uint64pow10", "math/bits.deBruijn32tab", "math/bits.deBruijn64tab"], apart := false, laid := [("math/bits.deBruijn32tab", laid_math_bits_deBruijn32tab), ("math/bits.deBruijn64tab", laid_math_bits_deBruijn64tab), ("internal/strconv.uint64pow10", laid_internal_strconv_uint64pow10), ("strconv.ErrRange", laid_strconv_ErrRange), ("strconv.ErrSyntax", laid_strconv_ErrSyntax)], narrowed := true }
def FnFactOrderUptoSaid : Prop := fnFactOrderUptoRow.holds Tryd.pinned (OpenSpec.upto fnFactOrderSpec)

/-- 'laws.FnTests', WHERE WHAT IT READS IS OF BULK AT MOST 1048576: true; the input reads as it did. -/
def fnTestsUptoRow : OpenClaim := { program := "ytpjklnngigkkiaadoor", sum := "7f4f0f3723c18a86bcc53ddcf94a92aa7524884fe36d9455df4852f9f0bbe6b5", func := "loop.example/g03015/laws.FnTests", spec := "fnTests", recurses := true, named := ["strconv.ErrSyntax", "strconv.ErrRange", "internal/strconv.uint64pow10", "math/bits.deBruijn32tab", "math/bits.deBruijn64tab"], apart := false, laid := [("math/bits.deBruijn32tab", laid_math_bits_deBruijn32tab), ("math/bits.deBruijn64tab", laid_math_bits_deBruijn64tab), ("internal/strconv.uint64pow10", laid_internal_strconv_uint64pow10), ("strconv.ErrRange", laid_strconv_ErrRange), ("strconv.ErrSyntax", laid_strconv_ErrSyntax)], narrowed := true }
def FnTestsUptoSaid : Prop := fnTestsUptoRow.holds Tryd.pinned (OpenSpec.upto fnTestsSpec)

/-- 'laws.FnExactAreFacts', WHERE WHAT IT READS IS OF BULK AT MOST 1048576: true; the input reads as it did. -/
def fnExactAreFactsUptoRow : OpenClaim := { program := "ytpjklnngigkkiaadoor", sum := "7f4f0f3723c18a86bcc53ddcf94a92aa7524884fe36d9455df4852f9f0bbe6b5", func := "loop.example/g03015/laws.FnExactAreFacts", spec := "fnExactAreFacts", inPlace := ["internal/bytealg.abigen_runtime_cmpstring"], recurses := true, named := ["strconv.ErrSyntax", "strconv.ErrRange", "internal/strconv.uint64pow10", "math/bits.deBruijn32tab", "math/bits.deBruijn64tab"], apart := false, laid := [("math/bits.deBruijn32tab", laid_math_bits_deBruijn32tab), ("math/bits.deBruijn64tab", laid_math_bits_deBruijn64tab), ("internal/strconv.uint64pow10", laid_internal_strconv_uint64pow10), ("strconv.ErrRange", laid_strconv_ErrRange), ("strconv.ErrSyntax", laid_strconv_ErrSyntax)], narrowed := true }
def FnExactAreFactsUptoSaid : Prop := fnExactAreFactsUptoRow.holds Tryd.pinned (OpenSpec.upto fnExactAreFactsSpec)

/-- 'laws.FnFactSets', WHERE WHAT IT READS IS OF BULK AT MOST 1048576: true; the input reads as it did. -/
def fnFactSetsUptoRow : OpenClaim := { program := "ytpjklnngigkkiaadoor", sum := "7f4f0f3723c18a86bcc53ddcf94a92aa7524884fe36d9455df4852f9f0bbe6b5", func := "loop.example/g03015/laws.FnFactSets", spec := "fnFactSets", inPlace := ["internal/bytealg.abigen_runtime_cmpstring"], recurses := true, named := ["strconv.ErrSyntax", "strconv.ErrRange", "internal/strconv.uint64pow10", "math/bits.deBruijn32tab", "math/bits.deBruijn64tab"], apart := false, laid := [("math/bits.deBruijn32tab", laid_math_bits_deBruijn32tab), ("math/bits.deBruijn64tab", laid_math_bits_deBruijn64tab), ("internal/strconv.uint64pow10", laid_internal_strconv_uint64pow10), ("strconv.ErrRange", laid_strconv_ErrRange), ("strconv.ErrSyntax", laid_strconv_ErrSyntax)], narrowed := true }
def FnFactSetsUptoSaid : Prop := fnFactSetsUptoRow.holds Tryd.pinned (OpenSpec.upto fnFactSetsSpec)

/-- 'laws.FnExactHoldsTest', WHERE WHAT IT READS IS OF BULK AT MOST 1048576: true; the input reads as it did. -/
def fnExactHoldsTestUptoRow : OpenClaim := { program := "ytpjklnngigkkiaadoor", sum := "7f4f0f3723c18a86bcc53ddcf94a92aa7524884fe36d9455df4852f9f0bbe6b5", func := "loop.example/g03015/laws.FnExactHoldsTest", spec := "fnExactHoldsTest", recurses := true, named := ["strconv.ErrSyntax", "strconv.ErrRange", "internal/strconv.uint64pow10", "math/bits.deBruijn32tab", "math/bits.deBruijn64tab"], apart := false, laid := [("math/bits.deBruijn32tab", laid_math_bits_deBruijn32tab), ("math/bits.deBruijn64tab", laid_math_bits_deBruijn64tab), ("internal/strconv.uint64pow10", laid_internal_strconv_uint64pow10), ("strconv.ErrRange", laid_strconv_ErrRange), ("strconv.ErrSyntax", laid_strconv_ErrSyntax)], narrowed := true }
def FnExactHoldsTestUptoSaid : Prop := fnExactHoldsTestUptoRow.holds Tryd.pinned (OpenSpec.upto fnExactHoldsTestSpec)

/-- 'laws.FnExactRemoveFact', WHERE WHAT IT READS IS OF BULK AT MOST 1048576: true; the input reads as it did. -/
def fnExactRemoveFactUptoRow : OpenClaim := { program := "ytpjklnngigkkiaadoor", sum := "7f4f0f3723c18a86bcc53ddcf94a92aa7524884fe36d9455df4852f9f0bbe6b5", func := "loop.example/g03015/laws.FnExactRemoveFact", spec := "fnExactRemoveFact", inPlace := ["internal/bytealg.abigen_runtime_cmpstring"], recurses := true, named := ["strconv.ErrSyntax", "strconv.ErrRange", "internal/strconv.uint64pow10", "math/bits.deBruijn32tab", "math/bits.deBruijn64tab"], apart := false, laid := [("math/bits.deBruijn32tab", laid_math_bits_deBruijn32tab), ("math/bits.deBruijn64tab", laid_math_bits_deBruijn64tab), ("internal/strconv.uint64pow10", laid_internal_strconv_uint64pow10), ("strconv.ErrRange", laid_strconv_ErrRange), ("strconv.ErrSyntax", laid_strconv_ErrSyntax)], narrowed := true }
def FnExactRemoveFactUptoSaid : Prop := fnExactRemoveFactUptoRow.holds Tryd.pinned (OpenSpec.upto fnExactRemoveFactSpec)

end Rows
end Go.Proofs.YtpjklnngigkkiaaDoor
