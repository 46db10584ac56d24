/-
  No cell of these rows narrows 'for every input' (looked for: loops, veiled, ifaces, maps, wideKeys, modest, calm, conditions, laid).
  DERIVED. THE GIVEN ROWS OF THIS SEAT. 12 by the template 'for every input the law returns true; each argument reads behind the call as it read before'; 0 by the template 'total and deterministic' (their statements: YtpbnglpiadfjpaaTotals.lean).
  GIVEN WITH THE SEED: the statements are not yours to turn. If you find one false, say at which input.
  Laid BY PROGRAM, IN A SANDBOX (cutbox-rows.mjs): the forced cells as the released guide's own fill.sh prints them over the translation cd4f01fb2d7f6144… (all of the seat's roots in one cut). By AI agents, Wed Nov 11 2026. No macro, syntax, notation, axiom, sorry.
-/
import Derived.Test.YtpbnglpiadfjpaaChecked
import GoSem.Claim
import GoSem.ClaimJoined
import GoSem.ClaimMapViews
import Derived.JoinedTies
import Derived.KernelRfl
namespace Go.Proofs.Ytpbnglpiadfjpaa
/- THE CELL 'sum', in the pinned program and in every row, IS THE sha256 OF THE DUMP (.gsa) THAT YtpbnglpiadfjpaaProg.lean LOADS. Nothing in Lean hashes anything: it is a label: what it is worth is what the hold of that sum in a sandbox is worth. -/
noncomputable def Try.pinned : Pinned := { name := "ytpbnglpiadfjpaa", sum := "cd4f01fb2d7f6144a9fecc640861ae2d1ec9d49612ca7fdd52dc92eac7a32b95", checked := Try.checked }
namespace Rows
def none {H : Type} : Left H := { results := [], args := [] }

/-- 'laws.FnExactSameCond': WHATEVER THE INPUT: true; the input reads as it did. -/
def fnExactSameCondSpec : ChangeSpec := { name := "fnExactSameCond", fn := fun _ => fun
  | [d1, d2] => { results := [.lit (.bool true)], args := [d1, d2] }
  | _ => none }
def fnExactSameCondRow : OpenClaim := { program := "ytpbnglpiadfjpaa", sum := "cd4f01fb2d7f6144a9fecc640861ae2d1ec9d49612ca7fdd52dc92eac7a32b95", func := "loop.example/g03015/laws.FnExactSameCond", spec := "fnExactSameCond", apart := false }
def FnExactSameCondSaid : Prop := fnExactSameCondRow.holds Try.pinned (OpenSpec.ofChange fnExactSameCondSpec)

/-- ITS FALSE NEIGHBOUR: 'it returns false'. Refute it at one input. -/
def fnExactSameCondWrong : ChangeSpec := { name := "fnExactSameCond", fn := fun _ => fun
  | [d1, d2] => { results := [.lit (.bool false)], args := [d1, d2] }
  | _ => none }
def FnExactSameCondWrongFalsely : Prop := fnExactSameCondRow.holds Try.pinned (OpenSpec.ofChange fnExactSameCondWrong)

/-- 'laws.FnExactFindFact': WHATEVER THE INPUT: true; the input reads as it did. -/
def fnExactFindFactSpec : ChangeSpec := { name := "fnExactFindFact", fn := fun _ => fun
  | [d1, d2] => { results := [.lit (.bool true)], args := [d1, d2] }
  | _ => none }
def fnExactFindFactRow : OpenClaim := { program := "ytpbnglpiadfjpaa", sum := "cd4f01fb2d7f6144a9fecc640861ae2d1ec9d49612ca7fdd52dc92eac7a32b95", func := "loop.example/g03015/laws.FnExactFindFact", spec := "fnExactFindFact", apart := false }
def FnExactFindFactSaid : Prop := fnExactFindFactRow.holds Try.pinned (OpenSpec.ofChange fnExactFindFactSpec)

/-- ITS FALSE NEIGHBOUR: 'it returns false'. Refute it at one input. -/
def fnExactFindFactWrong : ChangeSpec := { name := "fnExactFindFact", fn := fun _ => fun
  | [d1, d2] => { results := [.lit (.bool false)], args := [d1, d2] }
  | _ => none }
def FnExactFindFactWrongFalsely : Prop := fnExactFindFactRow.holds Try.pinned (OpenSpec.ofChange fnExactFindFactWrong)

/-- 'laws.FnExactSameFacts': WHATEVER THE INPUT: true; the input reads as it did. -/
def fnExactSameFactsSpec : ChangeSpec := { name := "fnExactSameFacts", fn := fun _ => fun
  | [d1, d2] => { results := [.lit (.bool true)], args := [d1, d2] }
  | _ => none }
def fnExactSameFactsRow : OpenClaim := { program := "ytpbnglpiadfjpaa", sum := "cd4f01fb2d7f6144a9fecc640861ae2d1ec9d49612ca7fdd52dc92eac7a32b95", func := "loop.example/g03015/laws.FnExactSameFacts", spec := "fnExactSameFacts", apart := false }
def FnExactSameFactsSaid : Prop := fnExactSameFactsRow.holds Try.pinned (OpenSpec.ofChange fnExactSameFactsSpec)

/-- ITS FALSE NEIGHBOUR: 'it returns false'. Refute it at one input. -/
def fnExactSameFactsWrong : ChangeSpec := { name := "fnExactSameFacts", fn := fun _ => fun
  | [d1, d2] => { results := [.lit (.bool false)], args := [d1, d2] }
  | _ => none }
def FnExactSameFactsWrongFalsely : Prop := fnExactSameFactsRow.holds Try.pinned (OpenSpec.ofChange fnExactSameFactsWrong)

/-- 'laws.FnExactIsAction': WHATEVER THE INPUT: true; the input reads as it did. -/
def fnExactIsActionSpec : ChangeSpec := { name := "fnExactIsAction", fn := fun _ => fun
  | [d] => { results := [.lit (.bool true)], args := [d] }
  | _ => none }
def fnExactIsActionRow : OpenClaim := { program := "ytpbnglpiadfjpaa", sum := "cd4f01fb2d7f6144a9fecc640861ae2d1ec9d49612ca7fdd52dc92eac7a32b95", func := "loop.example/g03015/laws.FnExactIsAction", spec := "fnExactIsAction", apart := false }
def FnExactIsActionSaid : Prop := fnExactIsActionRow.holds Try.pinned (OpenSpec.ofChange fnExactIsActionSpec)

/-- ITS FALSE NEIGHBOUR: 'it returns false'. Refute it at one input. -/
def fnExactIsActionWrong : ChangeSpec := { name := "fnExactIsAction", fn := fun _ => fun
  | [d] => { results := [.lit (.bool false)], args := [d] }
  | _ => none }
def FnExactIsActionWrongFalsely : Prop := fnExactIsActionRow.holds Try.pinned (OpenSpec.ofChange fnExactIsActionWrong)

/-- 'laws.FnExactIsCond': WHATEVER THE INPUT: true; the input reads as it did. -/
def fnExactIsCondSpec : ChangeSpec := { name := "fnExactIsCond", fn := fun _ => fun
  | [d] => { results := [.lit (.bool true)], args := [d] }
  | _ => none }
def fnExactIsCondRow : OpenClaim := { program := "ytpbnglpiadfjpaa", sum := "cd4f01fb2d7f6144a9fecc640861ae2d1ec9d49612ca7fdd52dc92eac7a32b95", func := "loop.example/g03015/laws.FnExactIsCond", spec := "fnExactIsCond", apart := false }
def FnExactIsCondSaid : Prop := fnExactIsCondRow.holds Try.pinned (OpenSpec.ofChange fnExactIsCondSpec)

/-- ITS FALSE NEIGHBOUR: 'it returns false'. Refute it at one input. -/
def fnExactIsCondWrong : ChangeSpec := { name := "fnExactIsCond", fn := fun _ => fun
  | [d] => { results := [.lit (.bool false)], args := [d] }
  | _ => none }
def FnExactIsCondWrongFalsely : Prop := fnExactIsCondRow.holds Try.pinned (OpenSpec.ofChange fnExactIsCondWrong)

/-- 'laws.FnExactIsTest': WHATEVER THE INPUT: true; the input reads as it did. -/
def fnExactIsTestSpec : ChangeSpec := { name := "fnExactIsTest", fn := fun _ => fun
  | [d] => { results := [.lit (.bool true)], args := [d] }
  | _ => none }
def fnExactIsTestRow : OpenClaim := { program := "ytpbnglpiadfjpaa", sum := "cd4f01fb2d7f6144a9fecc640861ae2d1ec9d49612ca7fdd52dc92eac7a32b95", func := "loop.example/g03015/laws.FnExactIsTest", spec := "fnExactIsTest", apart := false }
def FnExactIsTestSaid : Prop := fnExactIsTestRow.holds Try.pinned (OpenSpec.ofChange fnExactIsTestSpec)

/-- ITS FALSE NEIGHBOUR: 'it returns false'. Refute it at one input. -/
def fnExactIsTestWrong : ChangeSpec := { name := "fnExactIsTest", fn := fun _ => fun
  | [d] => { results := [.lit (.bool false)], args := [d] }
  | _ => none }
def FnExactIsTestWrongFalsely : Prop := fnExactIsTestRow.holds Try.pinned (OpenSpec.ofChange fnExactIsTestWrong)

/-- 'laws.FnExactFactsWith': WHATEVER THE INPUT: true; the input reads as it did. -/
def fnExactFactsWithSpec : ChangeSpec := { name := "fnExactFactsWith", fn := fun _ => fun
  | [d1, d2] => { results := [.lit (.bool true)], args := [d1, d2] }
  | _ => none }
def fnExactFactsWithRow : OpenClaim := { program := "ytpbnglpiadfjpaa", sum := "cd4f01fb2d7f6144a9fecc640861ae2d1ec9d49612ca7fdd52dc92eac7a32b95", func := "loop.example/g03015/laws.FnExactFactsWith", spec := "fnExactFactsWith", apart := false }
def FnExactFactsWithSaid : Prop := fnExactFactsWithRow.holds Try.pinned (OpenSpec.ofChange fnExactFactsWithSpec)

/-- ITS FALSE NEIGHBOUR: 'it returns false'. Refute it at one input. -/
def fnExactFactsWithWrong : ChangeSpec := { name := "fnExactFactsWith", fn := fun _ => fun
  | [d1, d2] => { results := [.lit (.bool false)], args := [d1, d2] }
  | _ => none }
def FnExactFactsWithWrongFalsely : Prop := fnExactFactsWithRow.holds Try.pinned (OpenSpec.ofChange fnExactFactsWithWrong)

/-- 'laws.FnExactRestrict': WHATEVER THE INPUT: true; the input reads as it did. -/
def fnExactRestrictSpec : ChangeSpec := { name := "fnExactRestrict", fn := fun _ => fun
  | [d1, d2] => { results := [.lit (.bool true)], args := [d1, d2] }
  | _ => none }
def fnExactRestrictRow : OpenClaim := { program := "ytpbnglpiadfjpaa", sum := "cd4f01fb2d7f6144a9fecc640861ae2d1ec9d49612ca7fdd52dc92eac7a32b95", func := "loop.example/g03015/laws.FnExactRestrict", spec := "fnExactRestrict", apart := false }
def FnExactRestrictSaid : Prop := fnExactRestrictRow.holds Try.pinned (OpenSpec.ofChange fnExactRestrictSpec)

/-- ITS FALSE NEIGHBOUR: 'it returns false'. Refute it at one input. -/
def fnExactRestrictWrong : ChangeSpec := { name := "fnExactRestrict", fn := fun _ => fun
  | [d1, d2] => { results := [.lit (.bool false)], args := [d1, d2] }
  | _ => none }
def FnExactRestrictWrongFalsely : Prop := fnExactRestrictRow.holds Try.pinned (OpenSpec.ofChange fnExactRestrictWrong)

/-- 'laws.FnExactFormatFact': WHATEVER THE INPUT: true; the input reads as it did. -/
def fnExactFormatFactSpec : ChangeSpec := { name := "fnExactFormatFact", fn := fun _ => fun
  | [d] => { results := [.lit (.bool true)], args := [d] }
  | _ => none }
def fnExactFormatFactRow : OpenClaim := { program := "ytpbnglpiadfjpaa", sum := "cd4f01fb2d7f6144a9fecc640861ae2d1ec9d49612ca7fdd52dc92eac7a32b95", func := "loop.example/g03015/laws.FnExactFormatFact", spec := "fnExactFormatFact", inPlace := ["internal/abi.NoEscape", "internal/bytealg.MakeNoZero"], apart := false }
def FnExactFormatFactSaid : Prop := fnExactFormatFactRow.holds Try.pinned (OpenSpec.ofChange fnExactFormatFactSpec)

/-- ITS FALSE NEIGHBOUR: 'it returns false'. Refute it at one input. -/
def fnExactFormatFactWrong : ChangeSpec := { name := "fnExactFormatFact", fn := fun _ => fun
  | [d] => { results := [.lit (.bool false)], args := [d] }
  | _ => none }
def FnExactFormatFactWrongFalsely : Prop := fnExactFormatFactRow.holds Try.pinned (OpenSpec.ofChange fnExactFormatFactWrong)

/-- 'laws.FnExactFormatPattern': WHATEVER THE INPUT: true; the input reads as it did. -/
def fnExactFormatPatternSpec : ChangeSpec := { name := "fnExactFormatPattern", fn := fun _ => fun
  | [d] => { results := [.lit (.bool true)], args := [d] }
  | _ => none }
def fnExactFormatPatternRow : OpenClaim := { program := "ytpbnglpiadfjpaa", sum := "cd4f01fb2d7f6144a9fecc640861ae2d1ec9d49612ca7fdd52dc92eac7a32b95", func := "loop.example/g03015/laws.FnExactFormatPattern", spec := "fnExactFormatPattern", inPlace := ["internal/abi.NoEscape", "internal/bytealg.MakeNoZero"], apart := false }
def FnExactFormatPatternSaid : Prop := fnExactFormatPatternRow.holds Try.pinned (OpenSpec.ofChange fnExactFormatPatternSpec)

/-- ITS FALSE NEIGHBOUR: 'it returns false'. Refute it at one input. -/
def fnExactFormatPatternWrong : ChangeSpec := { name := "fnExactFormatPattern", fn := fun _ => fun
  | [d] => { results := [.lit (.bool false)], args := [d] }
  | _ => none }
def FnExactFormatPatternWrongFalsely : Prop := fnExactFormatPatternRow.holds Try.pinned (OpenSpec.ofChange fnExactFormatPatternWrong)

/-- 'laws.FnExactFormatBinding': WHATEVER THE INPUT: true; the input reads as it did. -/
def fnExactFormatBindingSpec : ChangeSpec := { name := "fnExactFormatBinding", fn := fun _ => fun
  | [d] => { results := [.lit (.bool true)], args := [d] }
  | _ => none }
def fnExactFormatBindingRow : OpenClaim := { program := "ytpbnglpiadfjpaa", sum := "cd4f01fb2d7f6144a9fecc640861ae2d1ec9d49612ca7fdd52dc92eac7a32b95", func := "loop.example/g03015/laws.FnExactFormatBinding", spec := "fnExactFormatBinding", inPlace := ["internal/abi.NoEscape", "internal/bytealg.MakeNoZero"], apart := false }
def FnExactFormatBindingSaid : Prop := fnExactFormatBindingRow.holds Try.pinned (OpenSpec.ofChange fnExactFormatBindingSpec)

/-- ITS FALSE NEIGHBOUR: 'it returns false'. Refute it at one input. -/
def fnExactFormatBindingWrong : ChangeSpec := { name := "fnExactFormatBinding", fn := fun _ => fun
  | [d] => { results := [.lit (.bool false)], args := [d] }
  | _ => none }
def FnExactFormatBindingWrongFalsely : Prop := fnExactFormatBindingRow.holds Try.pinned (OpenSpec.ofChange fnExactFormatBindingWrong)

/-- 'laws.FnExactExtend': WHATEVER THE INPUT: true; the input reads as it did. -/
def fnExactExtendSpec : ChangeSpec := { name := "fnExactExtend", fn := fun _ => fun
  | [d1, d2, d3] => { results := [.lit (.bool true)], args := [d1, d2, d3] }
  | _ => none }
def fnExactExtendRow : OpenClaim := { program := "ytpbnglpiadfjpaa", sum := "cd4f01fb2d7f6144a9fecc640861ae2d1ec9d49612ca7fdd52dc92eac7a32b95", func := "loop.example/g03015/laws.FnExactExtend", spec := "fnExactExtend", apart := false }
def FnExactExtendSaid : Prop := fnExactExtendRow.holds Try.pinned (OpenSpec.ofChange fnExactExtendSpec)

/-- ITS FALSE NEIGHBOUR: 'it returns false'. Refute it at one input. -/
def fnExactExtendWrong : ChangeSpec := { name := "fnExactExtend", fn := fun _ => fun
  | [d1, d2, d3] => { results := [.lit (.bool false)], args := [d1, d2, d3] }
  | _ => none }
def FnExactExtendWrongFalsely : Prop := fnExactExtendRow.holds Try.pinned (OpenSpec.ofChange fnExactExtendWrong)

/- THE SECOND FORM. 'bulk': how many values and letters a reading holds, each counted each time it is reached (what is shared counts as often as it is met; a slice's spare places count too). A statement '..UptoSaid' is the law's where the arguments, and the package variables that the reading takes, are together of bulk at most 1048576: NARROWER than '..Said'. Prove '..Said' where nothing that the law and all that it calls make is longer than what came in: it says more and counts as full. Else prove '..UptoSaid'. A law counts once. -/
mutual
def uptoBulk {H : Type} : DataW H → Nat
  | .lit (.string bytes) => bytes.length + 1
  | .lit _ => 1
  | .nil => 1
  | .ptr d => uptoBulk d + 1
  | .slice elems spare => uptoBulkAll elems + uptoBulkAll spare + 1
  | .agg parts => uptoBulkAll parts + 1
  | .iface _ d => uptoBulk d + 1
  | .map entries => uptoBulkEntries entries + 1
  | .held _ => 1
def uptoBulkAll {H : Type} : List (DataW H) → Nat
  | [] => 0
  | d :: r => uptoBulk d + uptoBulkAll r
def uptoBulkEntries {H : Type} : List (Lit × DataW H) → Nat
  | [] => 0
  | x :: r => uptoBulkEntry x + uptoBulkEntries r
def uptoBulkEntry {H : Type} : Lit × DataW H → Nat
  | (.string bytes, d) => bytes.length + uptoBulk d + 1
  | (_, d) => uptoBulk d + 1
 end
def uptoSmall : (H : Type) → List (DataW H) → Bool := fun _ ds => decide (uptoBulkAll ds ≤ 1048576)
def OpenSpec.upto (s : _root_.Go.ChangeSpec) : _root_.Go.OpenSpec := { _root_.Go.OpenSpec.ofChange s with cond := some uptoSmall }

/-- 'laws.FnExactSameCond', WHERE WHAT IT READS IS OF BULK AT MOST 1048576: true; the input reads as it did. -/
def fnExactSameCondUptoRow : OpenClaim := { program := "ytpbnglpiadfjpaa", sum := "cd4f01fb2d7f6144a9fecc640861ae2d1ec9d49612ca7fdd52dc92eac7a32b95", func := "loop.example/g03015/laws.FnExactSameCond", spec := "fnExactSameCond", apart := false, narrowed := true }
def FnExactSameCondUptoSaid : Prop := fnExactSameCondUptoRow.holds Try.pinned (OpenSpec.upto fnExactSameCondSpec)

/-- 'laws.FnExactFindFact', WHERE WHAT IT READS IS OF BULK AT MOST 1048576: true; the input reads as it did. -/
def fnExactFindFactUptoRow : OpenClaim := { program := "ytpbnglpiadfjpaa", sum := "cd4f01fb2d7f6144a9fecc640861ae2d1ec9d49612ca7fdd52dc92eac7a32b95", func := "loop.example/g03015/laws.FnExactFindFact", spec := "fnExactFindFact", apart := false, narrowed := true }
def FnExactFindFactUptoSaid : Prop := fnExactFindFactUptoRow.holds Try.pinned (OpenSpec.upto fnExactFindFactSpec)

/-- 'laws.FnExactSameFacts', WHERE WHAT IT READS IS OF BULK AT MOST 1048576: true; the input reads as it did. -/
def fnExactSameFactsUptoRow : OpenClaim := { program := "ytpbnglpiadfjpaa", sum := "cd4f01fb2d7f6144a9fecc640861ae2d1ec9d49612ca7fdd52dc92eac7a32b95", func := "loop.example/g03015/laws.FnExactSameFacts", spec := "fnExactSameFacts", apart := false, narrowed := true }
def FnExactSameFactsUptoSaid : Prop := fnExactSameFactsUptoRow.holds Try.pinned (OpenSpec.upto fnExactSameFactsSpec)

/-- 'laws.FnExactIsAction', WHERE WHAT IT READS IS OF BULK AT MOST 1048576: true; the input reads as it did. -/
def fnExactIsActionUptoRow : OpenClaim := { program := "ytpbnglpiadfjpaa", sum := "cd4f01fb2d7f6144a9fecc640861ae2d1ec9d49612ca7fdd52dc92eac7a32b95", func := "loop.example/g03015/laws.FnExactIsAction", spec := "fnExactIsAction", apart := false, narrowed := true }
def FnExactIsActionUptoSaid : Prop := fnExactIsActionUptoRow.holds Try.pinned (OpenSpec.upto fnExactIsActionSpec)

/-- 'laws.FnExactIsCond', WHERE WHAT IT READS IS OF BULK AT MOST 1048576: true; the input reads as it did. -/
def fnExactIsCondUptoRow : OpenClaim := { program := "ytpbnglpiadfjpaa", sum := "cd4f01fb2d7f6144a9fecc640861ae2d1ec9d49612ca7fdd52dc92eac7a32b95", func := "loop.example/g03015/laws.FnExactIsCond", spec := "fnExactIsCond", apart := false, narrowed := true }
def FnExactIsCondUptoSaid : Prop := fnExactIsCondUptoRow.holds Try.pinned (OpenSpec.upto fnExactIsCondSpec)

/-- 'laws.FnExactIsTest', WHERE WHAT IT READS IS OF BULK AT MOST 1048576: true; the input reads as it did. -/
def fnExactIsTestUptoRow : OpenClaim := { program := "ytpbnglpiadfjpaa", sum := "cd4f01fb2d7f6144a9fecc640861ae2d1ec9d49612ca7fdd52dc92eac7a32b95", func := "loop.example/g03015/laws.FnExactIsTest", spec := "fnExactIsTest", apart := false, narrowed := true }
def FnExactIsTestUptoSaid : Prop := fnExactIsTestUptoRow.holds Try.pinned (OpenSpec.upto fnExactIsTestSpec)

/-- 'laws.FnExactFactsWith', WHERE WHAT IT READS IS OF BULK AT MOST 1048576: true; the input reads as it did. -/
def fnExactFactsWithUptoRow : OpenClaim := { program := "ytpbnglpiadfjpaa", sum := "cd4f01fb2d7f6144a9fecc640861ae2d1ec9d49612ca7fdd52dc92eac7a32b95", func := "loop.example/g03015/laws.FnExactFactsWith", spec := "fnExactFactsWith", apart := false, narrowed := true }
def FnExactFactsWithUptoSaid : Prop := fnExactFactsWithUptoRow.holds Try.pinned (OpenSpec.upto fnExactFactsWithSpec)

/-- 'laws.FnExactRestrict', WHERE WHAT IT READS IS OF BULK AT MOST 1048576: true; the input reads as it did. -/
def fnExactRestrictUptoRow : OpenClaim := { program := "ytpbnglpiadfjpaa", sum := "cd4f01fb2d7f6144a9fecc640861ae2d1ec9d49612ca7fdd52dc92eac7a32b95", func := "loop.example/g03015/laws.FnExactRestrict", spec := "fnExactRestrict", apart := false, narrowed := true }
def FnExactRestrictUptoSaid : Prop := fnExactRestrictUptoRow.holds Try.pinned (OpenSpec.upto fnExactRestrictSpec)

/-- 'laws.FnExactFormatFact', WHERE WHAT IT READS IS OF BULK AT MOST 1048576: true; the input reads as it did. -/
def fnExactFormatFactUptoRow : OpenClaim := { program := "ytpbnglpiadfjpaa", sum := "cd4f01fb2d7f6144a9fecc640861ae2d1ec9d49612ca7fdd52dc92eac7a32b95", func := "loop.example/g03015/laws.FnExactFormatFact", spec := "fnExactFormatFact", inPlace := ["internal/abi.NoEscape", "internal/bytealg.MakeNoZero"], apart := false, narrowed := true }
def FnExactFormatFactUptoSaid : Prop := fnExactFormatFactUptoRow.holds Try.pinned (OpenSpec.upto fnExactFormatFactSpec)

/-- 'laws.FnExactFormatPattern', WHERE WHAT IT READS IS OF BULK AT MOST 1048576: true; the input reads as it did. -/
def fnExactFormatPatternUptoRow : OpenClaim := { program := "ytpbnglpiadfjpaa", sum := "cd4f01fb2d7f6144a9fecc640861ae2d1ec9d49612ca7fdd52dc92eac7a32b95", func := "loop.example/g03015/laws.FnExactFormatPattern", spec := "fnExactFormatPattern", inPlace := ["internal/abi.NoEscape", "internal/bytealg.MakeNoZero"], apart := false, narrowed := true }
def FnExactFormatPatternUptoSaid : Prop := fnExactFormatPatternUptoRow.holds Try.pinned (OpenSpec.upto fnExactFormatPatternSpec)

/-- 'laws.FnExactFormatBinding', WHERE WHAT IT READS IS OF BULK AT MOST 1048576: true; the input reads as it did. -/
def fnExactFormatBindingUptoRow : OpenClaim := { program := "ytpbnglpiadfjpaa", sum := "cd4f01fb2d7f6144a9fecc640861ae2d1ec9d49612ca7fdd52dc92eac7a32b95", func := "loop.example/g03015/laws.FnExactFormatBinding", spec := "fnExactFormatBinding", inPlace := ["internal/abi.NoEscape", "internal/bytealg.MakeNoZero"], apart := false, narrowed := true }
def FnExactFormatBindingUptoSaid : Prop := fnExactFormatBindingUptoRow.holds Try.pinned (OpenSpec.upto fnExactFormatBindingSpec)

/-- 'laws.FnExactExtend', WHERE WHAT IT READS IS OF BULK AT MOST 1048576: true; the input reads as it did. -/
def fnExactExtendUptoRow : OpenClaim := { program := "ytpbnglpiadfjpaa", sum := "cd4f01fb2d7f6144a9fecc640861ae2d1ec9d49612ca7fdd52dc92eac7a32b95", func := "loop.example/g03015/laws.FnExactExtend", spec := "fnExactExtend", apart := false, narrowed := true }
def FnExactExtendUptoSaid : Prop := fnExactExtendUptoRow.holds Try.pinned (OpenSpec.upto fnExactExtendSpec)

end Rows
end Go.Proofs.Ytpbnglpiadfjpaa
