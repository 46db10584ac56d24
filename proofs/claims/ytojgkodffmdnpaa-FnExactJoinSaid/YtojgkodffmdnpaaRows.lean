/-
  No cell of these rows narrows 'for every input' (looked for: loops, veiled, ifaces, maps, wideKeys, modest, calm, conditions, laid).
  DERIVED. THE GIVEN ROWS OF THIS SEAT. 12 by the template 'for every input the law returns true; each argument reads behind the call as it read before'; 0 by the template 'total and deterministic' (their statements: YtojgkodffmdnpaaTotals.lean).
  GIVEN WITH THE SEED: the statements are not yours to turn. If you find one false, say at which input.
  Laid BY PROGRAM, IN A SANDBOX (cutbox-rows.mjs): the forced cells as the released guide's own fill.sh prints them over the translation 6f0a9f7213ca454c… (all of the seat's roots in one cut). By AI agents, Wed Nov 11 2026. No macro, syntax, notation, axiom, sorry.
-/
import Derived.Test.YtojgkodffmdnpaaChecked
import GoSem.Claim
import GoSem.ClaimJoined
import GoSem.ClaimMapViews
import Derived.JoinedTies
import Derived.KernelRfl
namespace Go.Proofs.Ytojgkodffmdnpaa
/- THE CELL 'sum', in the pinned program and in every row, IS THE sha256 OF THE DUMP (.gsa) THAT YtojgkodffmdnpaaProg.lean LOADS. Nothing in Lean hashes anything: it is a label: what it is worth is what the hold of that sum in a sandbox is worth. -/
noncomputable def Try.pinned : Pinned := { name := "ytojgkodffmdnpaa", sum := "6f0a9f7213ca454c5e516eb2a67d034ff327fea56f48740e15196515fe2a5861", checked := Try.checked }
namespace Rows
def none {H : Type} : Left H := { results := [], args := [] }

/-- 'laws.FnExactRenameCond': WHATEVER THE INPUT: true; the input reads as it did. -/
def fnExactRenameCondSpec : ChangeSpec := { name := "fnExactRenameCond", fn := fun _ => fun
  | [d1, d2] => { results := [.lit (.bool true)], args := [d1, d2] }
  | _ => none }
def fnExactRenameCondRow : OpenClaim := { program := "ytojgkodffmdnpaa", sum := "6f0a9f7213ca454c5e516eb2a67d034ff327fea56f48740e15196515fe2a5861", func := "loop.example/g03015/laws.FnExactRenameCond", spec := "fnExactRenameCond", apart := false }
def FnExactRenameCondSaid : Prop := fnExactRenameCondRow.holds Try.pinned (OpenSpec.ofChange fnExactRenameCondSpec)

/-- ITS FALSE NEIGHBOUR: 'it returns false'. Refute it at one input. -/
def fnExactRenameCondWrong : ChangeSpec := { name := "fnExactRenameCond", fn := fun _ => fun
  | [d1, d2] => { results := [.lit (.bool false)], args := [d1, d2] }
  | _ => none }
def FnExactRenameCondWrongFalsely : Prop := fnExactRenameCondRow.holds Try.pinned (OpenSpec.ofChange fnExactRenameCondWrong)

/-- 'laws.FnExactFormatFacts': WHATEVER THE INPUT: true; the input reads as it did. -/
def fnExactFormatFactsSpec : ChangeSpec := { name := "fnExactFormatFacts", fn := fun _ => fun
  | [d] => { results := [.lit (.bool true)], args := [d] }
  | _ => none }
def fnExactFormatFactsRow : OpenClaim := { program := "ytojgkodffmdnpaa", sum := "6f0a9f7213ca454c5e516eb2a67d034ff327fea56f48740e15196515fe2a5861", func := "loop.example/g03015/laws.FnExactFormatFacts", spec := "fnExactFormatFacts", inPlace := ["internal/abi.NoEscape", "internal/bytealg.MakeNoZero"], apart := false }
def FnExactFormatFactsSaid : Prop := fnExactFormatFactsRow.holds Try.pinned (OpenSpec.ofChange fnExactFormatFactsSpec)

/-- ITS FALSE NEIGHBOUR: 'it returns false'. Refute it at one input. -/
def fnExactFormatFactsWrong : ChangeSpec := { name := "fnExactFormatFacts", fn := fun _ => fun
  | [d] => { results := [.lit (.bool false)], args := [d] }
  | _ => none }
def FnExactFormatFactsWrongFalsely : Prop := fnExactFormatFactsRow.holds Try.pinned (OpenSpec.ofChange fnExactFormatFactsWrong)

/-- 'laws.FnExactSpecificity': WHATEVER THE INPUT: true; the input reads as it did. -/
def fnExactSpecificitySpec : ChangeSpec := { name := "fnExactSpecificity", fn := fun _ => fun
  | [d] => { results := [.lit (.bool true)], args := [d] }
  | _ => none }
def fnExactSpecificityRow : OpenClaim := { program := "ytojgkodffmdnpaa", sum := "6f0a9f7213ca454c5e516eb2a67d034ff327fea56f48740e15196515fe2a5861", func := "loop.example/g03015/laws.FnExactSpecificity", spec := "fnExactSpecificity", apart := false }
def FnExactSpecificitySaid : Prop := fnExactSpecificityRow.holds Try.pinned (OpenSpec.ofChange fnExactSpecificitySpec)

/-- ITS FALSE NEIGHBOUR: 'it returns false'. Refute it at one input. -/
def fnExactSpecificityWrong : ChangeSpec := { name := "fnExactSpecificity", fn := fun _ => fun
  | [d] => { results := [.lit (.bool false)], args := [d] }
  | _ => none }
def FnExactSpecificityWrongFalsely : Prop := fnExactSpecificityRow.holds Try.pinned (OpenSpec.ofChange fnExactSpecificityWrong)

/-- 'laws.FnExactFormatAction': WHATEVER THE INPUT: true; the input reads as it did. -/
def fnExactFormatActionSpec : ChangeSpec := { name := "fnExactFormatAction", fn := fun _ => fun
  | [d] => { results := [.lit (.bool true)], args := [d] }
  | _ => none }
def fnExactFormatActionRow : OpenClaim := { program := "ytojgkodffmdnpaa", sum := "6f0a9f7213ca454c5e516eb2a67d034ff327fea56f48740e15196515fe2a5861", func := "loop.example/g03015/laws.FnExactFormatAction", spec := "fnExactFormatAction", inPlace := ["internal/abi.NoEscape", "internal/bytealg.MakeNoZero"], apart := false }
def FnExactFormatActionSaid : Prop := fnExactFormatActionRow.holds Try.pinned (OpenSpec.ofChange fnExactFormatActionSpec)

/-- ITS FALSE NEIGHBOUR: 'it returns false'. Refute it at one input. -/
def fnExactFormatActionWrong : ChangeSpec := { name := "fnExactFormatAction", fn := fun _ => fun
  | [d] => { results := [.lit (.bool false)], args := [d] }
  | _ => none }
def FnExactFormatActionWrongFalsely : Prop := fnExactFormatActionRow.holds Try.pinned (OpenSpec.ofChange fnExactFormatActionWrong)

/-- 'laws.FnExactFindRule': WHATEVER THE INPUT: true; the input reads as it did. -/
def fnExactFindRuleSpec : ChangeSpec := { name := "fnExactFindRule", fn := fun _ => fun
  | [d1, d2] => { results := [.lit (.bool true)], args := [d1, d2] }
  | _ => none }
def fnExactFindRuleRow : OpenClaim := { program := "ytojgkodffmdnpaa", sum := "6f0a9f7213ca454c5e516eb2a67d034ff327fea56f48740e15196515fe2a5861", func := "loop.example/g03015/laws.FnExactFindRule", spec := "fnExactFindRule", apart := false }
def FnExactFindRuleSaid : Prop := fnExactFindRuleRow.holds Try.pinned (OpenSpec.ofChange fnExactFindRuleSpec)

/-- ITS FALSE NEIGHBOUR: 'it returns false'. Refute it at one input. -/
def fnExactFindRuleWrong : ChangeSpec := { name := "fnExactFindRule", fn := fun _ => fun
  | [d1, d2] => { results := [.lit (.bool false)], args := [d1, d2] }
  | _ => none }
def FnExactFindRuleWrongFalsely : Prop := fnExactFindRuleRow.holds Try.pinned (OpenSpec.ofChange fnExactFindRuleWrong)

/-- 'laws.FnExactInstance': WHATEVER THE INPUT: true; the input reads as it did. -/
def fnExactInstanceSpec : ChangeSpec := { name := "fnExactInstance", fn := fun _ => fun
  | [d1, d2] => { results := [.lit (.bool true)], args := [d1, d2] }
  | _ => none }
def fnExactInstanceRow : OpenClaim := { program := "ytojgkodffmdnpaa", sum := "6f0a9f7213ca454c5e516eb2a67d034ff327fea56f48740e15196515fe2a5861", func := "loop.example/g03015/laws.FnExactInstance", spec := "fnExactInstance", apart := false }
def FnExactInstanceSaid : Prop := fnExactInstanceRow.holds Try.pinned (OpenSpec.ofChange fnExactInstanceSpec)

/-- ITS FALSE NEIGHBOUR: 'it returns false'. Refute it at one input. -/
def fnExactInstanceWrong : ChangeSpec := { name := "fnExactInstance", fn := fun _ => fun
  | [d1, d2] => { results := [.lit (.bool false)], args := [d1, d2] }
  | _ => none }
def FnExactInstanceWrongFalsely : Prop := fnExactInstanceRow.holds Try.pinned (OpenSpec.ofChange fnExactInstanceWrong)

/-- 'laws.FnExactMatchFact': WHATEVER THE INPUT: true; the input reads as it did. -/
def fnExactMatchFactSpec : ChangeSpec := { name := "fnExactMatchFact", fn := fun _ => fun
  | [d1, d2, d3] => { results := [.lit (.bool true)], args := [d1, d2, d3] }
  | _ => none }
def fnExactMatchFactRow : OpenClaim := { program := "ytojgkodffmdnpaa", sum := "6f0a9f7213ca454c5e516eb2a67d034ff327fea56f48740e15196515fe2a5861", func := "loop.example/g03015/laws.FnExactMatchFact", spec := "fnExactMatchFact", apart := false }
def FnExactMatchFactSaid : Prop := fnExactMatchFactRow.holds Try.pinned (OpenSpec.ofChange fnExactMatchFactSpec)

/-- ITS FALSE NEIGHBOUR: 'it returns false'. Refute it at one input. -/
def fnExactMatchFactWrong : ChangeSpec := { name := "fnExactMatchFact", fn := fun _ => fun
  | [d1, d2, d3] => { results := [.lit (.bool false)], args := [d1, d2, d3] }
  | _ => none }
def FnExactMatchFactWrongFalsely : Prop := fnExactMatchFactRow.holds Try.pinned (OpenSpec.ofChange fnExactMatchFactWrong)

/-- 'laws.FnExactSortedTexts': WHATEVER THE INPUT: true; the input reads as it did. -/
def fnExactSortedTextsSpec : ChangeSpec := { name := "fnExactSortedTexts", fn := fun _ => fun
  | [d] => { results := [.lit (.bool true)], args := [d] }
  | _ => none }
def fnExactSortedTextsRow : OpenClaim := { program := "ytojgkodffmdnpaa", sum := "6f0a9f7213ca454c5e516eb2a67d034ff327fea56f48740e15196515fe2a5861", func := "loop.example/g03015/laws.FnExactSortedTexts", spec := "fnExactSortedTexts", recurses := true, apart := false }
def FnExactSortedTextsSaid : Prop := fnExactSortedTextsRow.holds Try.pinned (OpenSpec.ofChange fnExactSortedTextsSpec)

/-- ITS FALSE NEIGHBOUR: 'it returns false'. Refute it at one input. -/
def fnExactSortedTextsWrong : ChangeSpec := { name := "fnExactSortedTexts", fn := fun _ => fun
  | [d] => { results := [.lit (.bool false)], args := [d] }
  | _ => none }
def FnExactSortedTextsWrongFalsely : Prop := fnExactSortedTextsRow.holds Try.pinned (OpenSpec.ofChange fnExactSortedTextsWrong)

/-- 'laws.FnExactMatchingFacts': WHATEVER THE INPUT: true; the input reads as it did. -/
def fnExactMatchingFactsSpec : ChangeSpec := { name := "fnExactMatchingFacts", fn := fun _ => fun
  | [d1, d2, d3] => { results := [.lit (.bool true)], args := [d1, d2, d3] }
  | _ => none }
def fnExactMatchingFactsRow : OpenClaim := { program := "ytojgkodffmdnpaa", sum := "6f0a9f7213ca454c5e516eb2a67d034ff327fea56f48740e15196515fe2a5861", func := "loop.example/g03015/laws.FnExactMatchingFacts", spec := "fnExactMatchingFacts", apart := false }
def FnExactMatchingFactsSaid : Prop := fnExactMatchingFactsRow.holds Try.pinned (OpenSpec.ofChange fnExactMatchingFactsSpec)

/-- ITS FALSE NEIGHBOUR: 'it returns false'. Refute it at one input. -/
def fnExactMatchingFactsWrong : ChangeSpec := { name := "fnExactMatchingFacts", fn := fun _ => fun
  | [d1, d2, d3] => { results := [.lit (.bool false)], args := [d1, d2, d3] }
  | _ => none }
def FnExactMatchingFactsWrongFalsely : Prop := fnExactMatchingFactsRow.holds Try.pinned (OpenSpec.ofChange fnExactMatchingFactsWrong)

/-- 'laws.FnExactVarsOf': WHATEVER THE INPUT: true; the input reads as it did. -/
def fnExactVarsOfSpec : ChangeSpec := { name := "fnExactVarsOf", fn := fun _ => fun
  | [d] => { results := [.lit (.bool true)], args := [d] }
  | _ => none }
def fnExactVarsOfRow : OpenClaim := { program := "ytojgkodffmdnpaa", sum := "6f0a9f7213ca454c5e516eb2a67d034ff327fea56f48740e15196515fe2a5861", func := "loop.example/g03015/laws.FnExactVarsOf", spec := "fnExactVarsOf", recurses := true, apart := false }
def FnExactVarsOfSaid : Prop := fnExactVarsOfRow.holds Try.pinned (OpenSpec.ofChange fnExactVarsOfSpec)

/-- ITS FALSE NEIGHBOUR: 'it returns false'. Refute it at one input. -/
def fnExactVarsOfWrong : ChangeSpec := { name := "fnExactVarsOf", fn := fun _ => fun
  | [d] => { results := [.lit (.bool false)], args := [d] }
  | _ => none }
def FnExactVarsOfWrongFalsely : Prop := fnExactVarsOfRow.holds Try.pinned (OpenSpec.ofChange fnExactVarsOfWrong)

/-- 'laws.FnExactCondVars': WHATEVER THE INPUT: true; the input reads as it did. -/
def fnExactCondVarsSpec : ChangeSpec := { name := "fnExactCondVars", fn := fun _ => fun
  | [d] => { results := [.lit (.bool true)], args := [d] }
  | _ => none }
def fnExactCondVarsRow : OpenClaim := { program := "ytojgkodffmdnpaa", sum := "6f0a9f7213ca454c5e516eb2a67d034ff327fea56f48740e15196515fe2a5861", func := "loop.example/g03015/laws.FnExactCondVars", spec := "fnExactCondVars", recurses := true, apart := false }
def FnExactCondVarsSaid : Prop := fnExactCondVarsRow.holds Try.pinned (OpenSpec.ofChange fnExactCondVarsSpec)

/-- ITS FALSE NEIGHBOUR: 'it returns false'. Refute it at one input. -/
def fnExactCondVarsWrong : ChangeSpec := { name := "fnExactCondVars", fn := fun _ => fun
  | [d] => { results := [.lit (.bool false)], args := [d] }
  | _ => none }
def FnExactCondVarsWrongFalsely : Prop := fnExactCondVarsRow.holds Try.pinned (OpenSpec.ofChange fnExactCondVarsWrong)

/-- 'laws.FnExactJoin': WHATEVER THE INPUT: true; the input reads as it did. -/
def fnExactJoinSpec : ChangeSpec := { name := "fnExactJoin", fn := fun _ => fun
  | [d1, d2] => { results := [.lit (.bool true)], args := [d1, d2] }
  | _ => none }
def fnExactJoinRow : OpenClaim := { program := "ytojgkodffmdnpaa", sum := "6f0a9f7213ca454c5e516eb2a67d034ff327fea56f48740e15196515fe2a5861", func := "loop.example/g03015/laws.FnExactJoin", spec := "fnExactJoin", inPlace := ["internal/abi.NoEscape", "internal/bytealg.MakeNoZero"], apart := false }
def FnExactJoinSaid : Prop := fnExactJoinRow.holds Try.pinned (OpenSpec.ofChange fnExactJoinSpec)

/-- ITS FALSE NEIGHBOUR: 'it returns false'. Refute it at one input. -/
def fnExactJoinWrong : ChangeSpec := { name := "fnExactJoin", fn := fun _ => fun
  | [d1, d2] => { results := [.lit (.bool false)], args := [d1, d2] }
  | _ => none }
def FnExactJoinWrongFalsely : Prop := fnExactJoinRow.holds Try.pinned (OpenSpec.ofChange fnExactJoinWrong)

/- THE SECOND FORM. 'bulk': how many values and letters a reading holds, each counted each time it is reached (what is shared counts as often as it is met; a slice's spare places count too). A statement '..UptoSaid' is the law's where the arguments, and the package variables that the reading takes, are together of bulk at most 1048576: NARROWER than '..Said'. Prove '..Said' where nothing that the law and all that it calls make is longer than what came in: it says more and counts as full. Else prove '..UptoSaid'. A law counts once. -/
mutual
def uptoBulk {H : Type} : DataW H → Nat
  | .lit (.string bytes) => bytes.length + 1
  | .lit _ => 1
  | .nil => 1
  | .ptr d => uptoBulk d + 1
  | .slice elems spare => uptoBulkAll elems + uptoBulkAll spare + 1
  | .agg parts => uptoBulkAll parts + 1
  | .iface _ d => uptoBulk d + 1
  | .map entries => uptoBulkEntries entries + 1
  | .held _ => 1
def uptoBulkAll {H : Type} : List (DataW H) → Nat
  | [] => 0
  | d :: r => uptoBulk d + uptoBulkAll r
def uptoBulkEntries {H : Type} : List (Lit × DataW H) → Nat
  | [] => 0
  | x :: r => uptoBulkEntry x + uptoBulkEntries r
def uptoBulkEntry {H : Type} : Lit × DataW H → Nat
  | (.string bytes, d) => bytes.length + uptoBulk d + 1
  | (_, d) => uptoBulk d + 1
 end
def uptoSmall : (H : Type) → List (DataW H) → Bool := fun _ ds => decide (uptoBulkAll ds ≤ 1048576)
def OpenSpec.upto (s : _root_.Go.ChangeSpec) : _root_.Go.OpenSpec := { _root_.Go.OpenSpec.ofChange s with cond := some uptoSmall }

/-- 'laws.FnExactRenameCond', WHERE WHAT IT READS IS OF BULK AT MOST 1048576: true; the input reads as it did. -/
def fnExactRenameCondUptoRow : OpenClaim := { program := "ytojgkodffmdnpaa", sum := "6f0a9f7213ca454c5e516eb2a67d034ff327fea56f48740e15196515fe2a5861", func := "loop.example/g03015/laws.FnExactRenameCond", spec := "fnExactRenameCond", apart := false, narrowed := true }
def FnExactRenameCondUptoSaid : Prop := fnExactRenameCondUptoRow.holds Try.pinned (OpenSpec.upto fnExactRenameCondSpec)

/-- 'laws.FnExactFormatFacts', WHERE WHAT IT READS IS OF BULK AT MOST 1048576: true; the input reads as it did. -/
def fnExactFormatFactsUptoRow : OpenClaim := { program := "ytojgkodffmdnpaa", sum := "6f0a9f7213ca454c5e516eb2a67d034ff327fea56f48740e15196515fe2a5861", func := "loop.example/g03015/laws.FnExactFormatFacts", spec := "fnExactFormatFacts", inPlace := ["internal/abi.NoEscape", "internal/bytealg.MakeNoZero"], apart := false, narrowed := true }
def FnExactFormatFactsUptoSaid : Prop := fnExactFormatFactsUptoRow.holds Try.pinned (OpenSpec.upto fnExactFormatFactsSpec)

/-- 'laws.FnExactSpecificity', WHERE WHAT IT READS IS OF BULK AT MOST 1048576: true; the input reads as it did. -/
def fnExactSpecificityUptoRow : OpenClaim := { program := "ytojgkodffmdnpaa", sum := "6f0a9f7213ca454c5e516eb2a67d034ff327fea56f48740e15196515fe2a5861", func := "loop.example/g03015/laws.FnExactSpecificity", spec := "fnExactSpecificity", apart := false, narrowed := true }
def FnExactSpecificityUptoSaid : Prop := fnExactSpecificityUptoRow.holds Try.pinned (OpenSpec.upto fnExactSpecificitySpec)

/-- 'laws.FnExactFormatAction', WHERE WHAT IT READS IS OF BULK AT MOST 1048576: true; the input reads as it did. -/
def fnExactFormatActionUptoRow : OpenClaim := { program := "ytojgkodffmdnpaa", sum := "6f0a9f7213ca454c5e516eb2a67d034ff327fea56f48740e15196515fe2a5861", func := "loop.example/g03015/laws.FnExactFormatAction", spec := "fnExactFormatAction", inPlace := ["internal/abi.NoEscape", "internal/bytealg.MakeNoZero"], apart := false, narrowed := true }
def FnExactFormatActionUptoSaid : Prop := fnExactFormatActionUptoRow.holds Try.pinned (OpenSpec.upto fnExactFormatActionSpec)

/-- 'laws.FnExactFindRule', WHERE WHAT IT READS IS OF BULK AT MOST 1048576: true; the input reads as it did. -/
def fnExactFindRuleUptoRow : OpenClaim := { program := "ytojgkodffmdnpaa", sum := "6f0a9f7213ca454c5e516eb2a67d034ff327fea56f48740e15196515fe2a5861", func := "loop.example/g03015/laws.FnExactFindRule", spec := "fnExactFindRule", apart := false, narrowed := true }
def FnExactFindRuleUptoSaid : Prop := fnExactFindRuleUptoRow.holds Try.pinned (OpenSpec.upto fnExactFindRuleSpec)

/-- 'laws.FnExactInstance', WHERE WHAT IT READS IS OF BULK AT MOST 1048576: true; the input reads as it did. -/
def fnExactInstanceUptoRow : OpenClaim := { program := "ytojgkodffmdnpaa", sum := "6f0a9f7213ca454c5e516eb2a67d034ff327fea56f48740e15196515fe2a5861", func := "loop.example/g03015/laws.FnExactInstance", spec := "fnExactInstance", apart := false, narrowed := true }
def FnExactInstanceUptoSaid : Prop := fnExactInstanceUptoRow.holds Try.pinned (OpenSpec.upto fnExactInstanceSpec)

/-- 'laws.FnExactMatchFact', WHERE WHAT IT READS IS OF BULK AT MOST 1048576: true; the input reads as it did. -/
def fnExactMatchFactUptoRow : OpenClaim := { program := "ytojgkodffmdnpaa", sum := "6f0a9f7213ca454c5e516eb2a67d034ff327fea56f48740e15196515fe2a5861", func := "loop.example/g03015/laws.FnExactMatchFact", spec := "fnExactMatchFact", apart := false, narrowed := true }
def FnExactMatchFactUptoSaid : Prop := fnExactMatchFactUptoRow.holds Try.pinned (OpenSpec.upto fnExactMatchFactSpec)

/-- 'laws.FnExactSortedTexts', WHERE WHAT IT READS IS OF BULK AT MOST 1048576: true; the input reads as it did. -/
def fnExactSortedTextsUptoRow : OpenClaim := { program := "ytojgkodffmdnpaa", sum := "6f0a9f7213ca454c5e516eb2a67d034ff327fea56f48740e15196515fe2a5861", func := "loop.example/g03015/laws.FnExactSortedTexts", spec := "fnExactSortedTexts", recurses := true, apart := false, narrowed := true }
def FnExactSortedTextsUptoSaid : Prop := fnExactSortedTextsUptoRow.holds Try.pinned (OpenSpec.upto fnExactSortedTextsSpec)

/-- 'laws.FnExactMatchingFacts', WHERE WHAT IT READS IS OF BULK AT MOST 1048576: true; the input reads as it did. -/
def fnExactMatchingFactsUptoRow : OpenClaim := { program := "ytojgkodffmdnpaa", sum := "6f0a9f7213ca454c5e516eb2a67d034ff327fea56f48740e15196515fe2a5861", func := "loop.example/g03015/laws.FnExactMatchingFacts", spec := "fnExactMatchingFacts", apart := false, narrowed := true }
def FnExactMatchingFactsUptoSaid : Prop := fnExactMatchingFactsUptoRow.holds Try.pinned (OpenSpec.upto fnExactMatchingFactsSpec)

/-- 'laws.FnExactVarsOf', WHERE WHAT IT READS IS OF BULK AT MOST 1048576: true; the input reads as it did. -/
def fnExactVarsOfUptoRow : OpenClaim := { program := "ytojgkodffmdnpaa", sum := "6f0a9f7213ca454c5e516eb2a67d034ff327fea56f48740e15196515fe2a5861", func := "loop.example/g03015/laws.FnExactVarsOf", spec := "fnExactVarsOf", recurses := true, apart := false, narrowed := true }
def FnExactVarsOfUptoSaid : Prop := fnExactVarsOfUptoRow.holds Try.pinned (OpenSpec.upto fnExactVarsOfSpec)

/-- 'laws.FnExactCondVars', WHERE WHAT IT READS IS OF BULK AT MOST 1048576: true; the input reads as it did. -/
def fnExactCondVarsUptoRow : OpenClaim := { program := "ytojgkodffmdnpaa", sum := "6f0a9f7213ca454c5e516eb2a67d034ff327fea56f48740e15196515fe2a5861", func := "loop.example/g03015/laws.FnExactCondVars", spec := "fnExactCondVars", recurses := true, apart := false, narrowed := true }
def FnExactCondVarsUptoSaid : Prop := fnExactCondVarsUptoRow.holds Try.pinned (OpenSpec.upto fnExactCondVarsSpec)

/-- 'laws.FnExactJoin', WHERE WHAT IT READS IS OF BULK AT MOST 1048576: true; the input reads as it did. -/
def fnExactJoinUptoRow : OpenClaim := { program := "ytojgkodffmdnpaa", sum := "6f0a9f7213ca454c5e516eb2a67d034ff327fea56f48740e15196515fe2a5861", func := "loop.example/g03015/laws.FnExactJoin", spec := "fnExactJoin", inPlace := ["internal/abi.NoEscape", "internal/bytealg.MakeNoZero"], apart := false, narrowed := true }
def FnExactJoinUptoSaid : Prop := fnExactJoinUptoRow.holds Try.pinned (OpenSpec.upto fnExactJoinSpec)

end Rows
end Go.Proofs.Ytojgkodffmdnpaa
