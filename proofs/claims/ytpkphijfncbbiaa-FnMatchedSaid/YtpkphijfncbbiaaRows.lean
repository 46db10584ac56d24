/-
  No cell of these rows narrows 'for every input' (looked for: loops, veiled, ifaces, maps, wideKeys, modest, calm, conditions, laid).
  DERIVED. THE GIVEN ROWS OF THIS SEAT. 4 by the template 'for every input the law returns true; each argument reads behind the call as it read before'; 0 by the template 'total and deterministic' (their statements: YtpkphijfncbbiaaTotals.lean).
  GIVEN WITH THE SEED: the statements are not yours to turn. If you find one false, say at which input.
  Laid BY PROGRAM, IN A SANDBOX (cutbox-rows.mjs): the forced cells as the released guide's own fill.sh prints them over the translation 35ba7f57f48af9c3… (all of the seat's roots in one cut). By AI agents, Wed Nov 11 2026. No macro, syntax, notation, axiom, sorry.
-/
import Derived.Test.YtpkphijfncbbiaaChecked
import GoSem.Claim
import GoSem.ClaimJoined
import GoSem.ClaimMapViews
import Derived.JoinedTies
import Derived.KernelRfl
namespace Go.Proofs.Ytpkphijfncbbiaa
/- THE CELL 'sum', in the pinned program and in every row, IS THE sha256 OF THE DUMP (.gsa) THAT YtpkphijfncbbiaaProg.lean LOADS. Nothing in Lean hashes anything: it is a label: what it is worth is what the hold of that sum in a sandbox is worth. -/
noncomputable def Try.pinned : Pinned := { name := "ytpkphijfncbbiaa", sum := "35ba7f57f48af9c3648469014bbeed3ef3b429283263ef75554f4604c81e82e3", checked := Try.checked }
namespace Rows
def none {H : Type} : Left H := { results := [], args := [] }

/-- 'laws.FnExactCoversPattern': WHATEVER THE INPUT: true; the input reads as it did. -/
def fnExactCoversPatternSpec : ChangeSpec := { name := "fnExactCoversPattern", fn := fun _ => fun
  | [d1, d2] => { results := [.lit (.bool true)], args := [d1, d2] }
  | _ => none }
def fnExactCoversPatternRow : OpenClaim := { program := "ytpkphijfncbbiaa", sum := "35ba7f57f48af9c3648469014bbeed3ef3b429283263ef75554f4604c81e82e3", func := "loop.example/g03015/laws.FnExactCoversPattern", spec := "fnExactCoversPattern", apart := false }
def FnExactCoversPatternSaid : Prop := fnExactCoversPatternRow.holds Try.pinned (OpenSpec.ofChange fnExactCoversPatternSpec)

/-- ITS FALSE NEIGHBOUR: 'it returns false'. Refute it at one input. -/
def fnExactCoversPatternWrong : ChangeSpec := { name := "fnExactCoversPattern", fn := fun _ => fun
  | [d1, d2] => { results := [.lit (.bool false)], args := [d1, d2] }
  | _ => none }
def FnExactCoversPatternWrongFalsely : Prop := fnExactCoversPatternRow.holds Try.pinned (OpenSpec.ofChange fnExactCoversPatternWrong)

/-- 'laws.FnInstance': WHATEVER THE INPUT: true; the input reads as it did. -/
def fnInstanceSpec : ChangeSpec := { name := "fnInstance", fn := fun _ => fun
  | [d] => { results := [.lit (.bool true)], args := [d] }
  | _ => none }
def fnInstanceRow : OpenClaim := { program := "ytpkphijfncbbiaa", sum := "35ba7f57f48af9c3648469014bbeed3ef3b429283263ef75554f4604c81e82e3", func := "loop.example/g03015/laws.FnInstance", spec := "fnInstance", recurses := true, apart := false }
def FnInstanceSaid : Prop := fnInstanceRow.holds Try.pinned (OpenSpec.ofChange fnInstanceSpec)

/-- ITS FALSE NEIGHBOUR: 'it returns false'. Refute it at one input. -/
def fnInstanceWrong : ChangeSpec := { name := "fnInstance", fn := fun _ => fun
  | [d] => { results := [.lit (.bool false)], args := [d] }
  | _ => none }
def FnInstanceWrongFalsely : Prop := fnInstanceRow.holds Try.pinned (OpenSpec.ofChange fnInstanceWrong)

/-- 'laws.FnRenamed': WHATEVER THE INPUT: true; the input reads as it did. -/
def fnRenamedSpec : ChangeSpec := { name := "fnRenamed", fn := fun _ => fun
  | [d] => { results := [.lit (.bool true)], args := [d] }
  | _ => none }
def fnRenamedRow : OpenClaim := { program := "ytpkphijfncbbiaa", sum := "35ba7f57f48af9c3648469014bbeed3ef3b429283263ef75554f4604c81e82e3", func := "loop.example/g03015/laws.FnRenamed", spec := "fnRenamed", recurses := true, apart := false }
def FnRenamedSaid : Prop := fnRenamedRow.holds Try.pinned (OpenSpec.ofChange fnRenamedSpec)

/-- ITS FALSE NEIGHBOUR: 'it returns false'. Refute it at one input. -/
def fnRenamedWrong : ChangeSpec := { name := "fnRenamed", fn := fun _ => fun
  | [d] => { results := [.lit (.bool false)], args := [d] }
  | _ => none }
def FnRenamedWrongFalsely : Prop := fnRenamedRow.holds Try.pinned (OpenSpec.ofChange fnRenamedWrong)

/-- 'laws.FnMatched': WHATEVER THE INPUT: true; the input reads as it did. -/
def fnMatchedSpec : ChangeSpec := { name := "fnMatched", fn := fun _ => fun
  | [d] => { results := [.lit (.bool true)], args := [d] }
  | _ => none }
def fnMatchedRow : OpenClaim := { program := "ytpkphijfncbbiaa", sum := "35ba7f57f48af9c3648469014bbeed3ef3b429283263ef75554f4604c81e82e3", func := "loop.example/g03015/laws.FnMatched", spec := "fnMatched", recurses := true, apart := false }
def FnMatchedSaid : Prop := fnMatchedRow.holds Try.pinned (OpenSpec.ofChange fnMatchedSpec)

/-- ITS FALSE NEIGHBOUR: 'it returns false'. Refute it at one input. -/
def fnMatchedWrong : ChangeSpec := { name := "fnMatched", fn := fun _ => fun
  | [d] => { results := [.lit (.bool false)], args := [d] }
  | _ => none }
def FnMatchedWrongFalsely : Prop := fnMatchedRow.holds Try.pinned (OpenSpec.ofChange fnMatchedWrong)

/- THE SECOND FORM. 'bulk': how many values and letters a reading holds, each counted each time it is reached (what is shared counts as often as it is met; a slice's spare places count too). A statement '..UptoSaid' is the law's where the arguments, and the package variables that the reading takes, are together of bulk at most 1048576: NARROWER than '..Said'. Prove '..Said' where nothing that the law and all that it calls make is longer than what came in: it says more and counts as full. Else prove '..UptoSaid'. A law counts once. -/
mutual
def uptoBulk {H : Type} : DataW H → Nat
  | .lit (.string bytes) => bytes.length + 1
  | .lit _ => 1
  | .nil => 1
  | .ptr d => uptoBulk d + 1
  | .slice elems spare => uptoBulkAll elems + uptoBulkAll spare + 1
  | .agg parts => uptoBulkAll parts + 1
  | .iface _ d => uptoBulk d + 1
  | .map entries => uptoBulkEntries entries + 1
  | .held _ => 1
def uptoBulkAll {H : Type} : List (DataW H) → Nat
  | [] => 0
  | d :: r => uptoBulk d + uptoBulkAll r
def uptoBulkEntries {H : Type} : List (Lit × DataW H) → Nat
  | [] => 0
  | x :: r => uptoBulkEntry x + uptoBulkEntries r
def uptoBulkEntry {H : Type} : Lit × DataW H → Nat
  | (.string bytes, d) => bytes.length + uptoBulk d + 1
  | (_, d) => uptoBulk d + 1
 end
def uptoSmall : (H : Type) → List (DataW H) → Bool := fun _ ds => decide (uptoBulkAll ds ≤ 1048576)
def OpenSpec.upto (s : _root_.Go.ChangeSpec) : _root_.Go.OpenSpec := { _root_.Go.OpenSpec.ofChange s with cond := some uptoSmall }

/-- 'laws.FnExactCoversPattern', WHERE WHAT IT READS IS OF BULK AT MOST 1048576: true; the input reads as it did. -/
def fnExactCoversPatternUptoRow : OpenClaim := { program := "ytpkphijfncbbiaa", sum := "35ba7f57f48af9c3648469014bbeed3ef3b429283263ef75554f4604c81e82e3", func := "loop.example/g03015/laws.FnExactCoversPattern", spec := "fnExactCoversPattern", apart := false, narrowed := true }
def FnExactCoversPatternUptoSaid : Prop := fnExactCoversPatternUptoRow.holds Try.pinned (OpenSpec.upto fnExactCoversPatternSpec)

/-- 'laws.FnInstance', WHERE WHAT IT READS IS OF BULK AT MOST 1048576: true; the input reads as it did. -/
def fnInstanceUptoRow : OpenClaim := { program := "ytpkphijfncbbiaa", sum := "35ba7f57f48af9c3648469014bbeed3ef3b429283263ef75554f4604c81e82e3", func := "loop.example/g03015/laws.FnInstance", spec := "fnInstance", recurses := true, apart := false, narrowed := true }
def FnInstanceUptoSaid : Prop := fnInstanceUptoRow.holds Try.pinned (OpenSpec.upto fnInstanceSpec)

/-- 'laws.FnRenamed', WHERE WHAT IT READS IS OF BULK AT MOST 1048576: true; the input reads as it did. -/
def fnRenamedUptoRow : OpenClaim := { program := "ytpkphijfncbbiaa", sum := "35ba7f57f48af9c3648469014bbeed3ef3b429283263ef75554f4604c81e82e3", func := "loop.example/g03015/laws.FnRenamed", spec := "fnRenamed", recurses := true, apart := false, narrowed := true }
def FnRenamedUptoSaid : Prop := fnRenamedUptoRow.holds Try.pinned (OpenSpec.upto fnRenamedSpec)

/-- 'laws.FnMatched', WHERE WHAT IT READS IS OF BULK AT MOST 1048576: true; the input reads as it did. -/
def fnMatchedUptoRow : OpenClaim := { program := "ytpkphijfncbbiaa", sum := "35ba7f57f48af9c3648469014bbeed3ef3b429283263ef75554f4604c81e82e3", func := "loop.example/g03015/laws.FnMatched", spec := "fnMatched", recurses := true, apart := false, narrowed := true }
def FnMatchedUptoSaid : Prop := fnMatchedUptoRow.holds Try.pinned (OpenSpec.upto fnMatchedSpec)

end Rows
end Go.Proofs.Ytpkphijfncbbiaa
