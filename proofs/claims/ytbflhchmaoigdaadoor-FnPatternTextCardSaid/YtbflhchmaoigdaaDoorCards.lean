/-
  DERIVED. GIVEN WITH THE SEED: THE CARDS: each row of YtbflhchmaoigdaaDoorRows.lean that lists a variable, with what it lists TIED to the program's text (the seventh form; the later family's looks); each row that meets fmt, with fmt's text TOLD by the authors' own Lean function (tested against real Go, not proved from fmt's source: count such statements apart). THE CARD IS WHAT COUNTS. Prove the row's statement (the work); the ties are given (YtbflhchmaoigdaaDoorTie.lean); close each card by the builder's one call (the guide's Derived/Test/ToyasCard.lean, 'card_holds'). Laid BY PROGRAM, IN A SANDBOX (cutbox-door.mjs). By AI agents, Wed Nov 11 2026. No macro, syntax, notation, axiom, sorry.
-/
import Derived.Test.YtbflhchmaoigdaaDoorRows
import GoSem.ClaimSeven
namespace Go.Proofs.YtbflhchmaoigdaaDoor
namespace Rows

/-- THE TIED CARD OF 'laws.FnExactFormatInt'. -/
def fnExactFormatIntCard : Claim7 := { stood := { row := fnExactFormatIntRow, standIns := [], harness := (true, "32b9eef5289552e52c59f3459bc27481e26e5ae0787c0d1413cfb3c9d6898a22"), looks := true }, kinds := [], alts := [], laidByText := true, laidKinds := [.data, .data, .data], laidTests := true, laidLooks := .later }
def FnExactFormatIntCardSaid : Prop := Claim7.holds Tryd.pinned (.plain (OpenSpec.ofChange fnExactFormatIntSpec)) fnExactFormatIntCard

/-- THE TIED CARD OF 'laws.FnExactSplit'. -/
def fnExactSplitCard : Claim7 := { stood := { row := fnExactSplitRow, standIns := [], harness := (true, "32b9eef5289552e52c59f3459bc27481e26e5ae0787c0d1413cfb3c9d6898a22"), looks := true }, kinds := [], alts := [], laidByText := true, laidKinds := [.data, .pinned], laidTests := true, laidLooks := .later }
def FnExactSplitCardSaid : Prop := Claim7.holds Tryd.pinned (.plain (OpenSpec.ofChange fnExactSplitSpec)) fnExactSplitCard

/-- THE TIED CARD OF 'laws.FnExactFormatCond'. -/
def fnExactFormatCondCard : Claim7 := { stood := { row := fnExactFormatCondRow, standIns := [], harness := (true, "32b9eef5289552e52c59f3459bc27481e26e5ae0787c0d1413cfb3c9d6898a22"), looks := true }, kinds := [], alts := [], laidByText := true, laidKinds := [.data], laidTests := true, laidLooks := .later }
def FnExactFormatCondCardSaid : Prop := Claim7.holds Tryd.pinned (.plain (OpenSpec.ofChange fnExactFormatCondSpec)) fnExactFormatCondCard

/-- THE TIED CARD OF 'laws.FnPatternText'. -/
def fnPatternTextCard : Claim7 := { stood := { row := fnPatternTextRow, standIns := [], harness := (true, "32b9eef5289552e52c59f3459bc27481e26e5ae0787c0d1413cfb3c9d6898a22"), looks := true }, kinds := [], alts := [], laidByText := true, laidKinds := [.data, .pinned], laidTests := true, laidLooks := .later }
def FnPatternTextCardSaid : Prop := Claim7.holds Tryd.pinned (.plain (OpenSpec.ofChange fnPatternTextSpec)) fnPatternTextCard

/-- THE TIED CARD OF 'laws.FnExactParseFact'. -/
def fnExactParseFactCard : Claim7 := { stood := { row := fnExactParseFactRow, standIns := [], harness := (true, "32b9eef5289552e52c59f3459bc27481e26e5ae0787c0d1413cfb3c9d6898a22"), looks := true }, kinds := [], alts := [], laidByText := true, laidKinds := [.data, .pinned], laidTests := true, laidLooks := .later }
def FnExactParseFactCardSaid : Prop := Claim7.holds Tryd.pinned (.plain (OpenSpec.ofChange fnExactParseFactSpec)) fnExactParseFactCard

/-- THE TIED CARD OF 'laws.FnExactParsePattern'. -/
def fnExactParsePatternCard : Claim7 := { stood := { row := fnExactParsePatternRow, standIns := [], harness := (true, "32b9eef5289552e52c59f3459bc27481e26e5ae0787c0d1413cfb3c9d6898a22"), looks := true }, kinds := [], alts := [], laidByText := true, laidKinds := [.data, .pinned], laidTests := true, laidLooks := .later }
def FnExactParsePatternCardSaid : Prop := Claim7.holds Tryd.pinned (.plain (OpenSpec.ofChange fnExactParsePatternSpec)) fnExactParsePatternCard

/-- THE TIED CARD OF 'laws.FnExactParseFacts'. -/
def fnExactParseFactsCard : Claim7 := { stood := { row := fnExactParseFactsRow, standIns := [], harness := (true, "32b9eef5289552e52c59f3459bc27481e26e5ae0787c0d1413cfb3c9d6898a22"), looks := true }, kinds := [], alts := [], laidByText := true, laidKinds := [.data, .pinned], laidTests := true, laidLooks := .later }
def FnExactParseFactsCardSaid : Prop := Claim7.holds Tryd.pinned (.plain (OpenSpec.ofChange fnExactParseFactsSpec)) fnExactParseFactsCard

/-- THE TIED CARD OF 'laws.FnCondText'. -/
def fnCondTextCard : Claim7 := { stood := { row := fnCondTextRow, standIns := [], harness := (true, "32b9eef5289552e52c59f3459bc27481e26e5ae0787c0d1413cfb3c9d6898a22"), looks := true }, kinds := [], alts := [], laidByText := true, laidKinds := [.data, .data, .pinned], laidTests := true, laidLooks := .later }
def FnCondTextCardSaid : Prop := Claim7.holds Tryd.pinned (.plain (OpenSpec.ofChange fnCondTextSpec)) fnCondTextCard

/-- THE TIED CARD OF 'laws.FnAtoms'. -/
def fnAtomsCard : Claim7 := { stood := { row := fnAtomsRow, standIns := [], harness := (true, "32b9eef5289552e52c59f3459bc27481e26e5ae0787c0d1413cfb3c9d6898a22"), looks := true }, kinds := [], alts := [], laidByText := true, laidKinds := [.data, .data, .data, .sentinel, .sentinel], laidTests := true, laidLooks := .later }
def FnAtomsCardSaid : Prop := Claim7.holds Tryd.pinned (.plain (OpenSpec.ofChange fnAtomsSpec)) fnAtomsCard

/-- THE TIED CARD OF 'laws.FnFactText'. -/
def fnFactTextCard : Claim7 := { stood := { row := fnFactTextRow, standIns := [], harness := (true, "32b9eef5289552e52c59f3459bc27481e26e5ae0787c0d1413cfb3c9d6898a22"), looks := true }, kinds := [], alts := [], laidByText := true, laidKinds := [.data, .pinned], laidTests := true, laidLooks := .later }
def FnFactTextCardSaid : Prop := Claim7.holds Tryd.pinned (.plain (OpenSpec.ofChange fnFactTextSpec)) fnFactTextCard

/-- THE TIED CARD OF 'laws.FnSplit'. -/
def fnSplitCard : Claim7 := { stood := { row := fnSplitRow, standIns := [], harness := (true, "32b9eef5289552e52c59f3459bc27481e26e5ae0787c0d1413cfb3c9d6898a22"), looks := true }, kinds := [], alts := [], laidByText := true, laidKinds := [.data, .pinned], laidTests := true, laidLooks := .later }
def FnSplitCardSaid : Prop := Claim7.holds Tryd.pinned (.plain (OpenSpec.ofChange fnSplitSpec)) fnSplitCard

/-- THE SECOND FORM's CARD OF 'laws.FnExactFormatInt'. -/
def fnExactFormatIntUptoCard : Claim7 := { stood := { row := fnExactFormatIntUptoRow, standIns := [], harness := (true, "32b9eef5289552e52c59f3459bc27481e26e5ae0787c0d1413cfb3c9d6898a22"), looks := true }, kinds := [], alts := [], laidByText := true, laidKinds := [.data, .data, .data], laidTests := true, laidLooks := .later }
def FnExactFormatIntUptoCardSaid : Prop := Claim7.holds Tryd.pinned (.plain (OpenSpec.upto fnExactFormatIntSpec)) fnExactFormatIntUptoCard

/-- THE SECOND FORM's CARD OF 'laws.FnExactSplit'. -/
def fnExactSplitUptoCard : Claim7 := { stood := { row := fnExactSplitUptoRow, standIns := [], harness := (true, "32b9eef5289552e52c59f3459bc27481e26e5ae0787c0d1413cfb3c9d6898a22"), looks := true }, kinds := [], alts := [], laidByText := true, laidKinds := [.data, .pinned], laidTests := true, laidLooks := .later }
def FnExactSplitUptoCardSaid : Prop := Claim7.holds Tryd.pinned (.plain (OpenSpec.upto fnExactSplitSpec)) fnExactSplitUptoCard

/-- THE SECOND FORM's CARD OF 'laws.FnExactFormatCond'. -/
def fnExactFormatCondUptoCard : Claim7 := { stood := { row := fnExactFormatCondUptoRow, standIns := [], harness := (true, "32b9eef5289552e52c59f3459bc27481e26e5ae0787c0d1413cfb3c9d6898a22"), looks := true }, kinds := [], alts := [], laidByText := true, laidKinds := [.data], laidTests := true, laidLooks := .later }
def FnExactFormatCondUptoCardSaid : Prop := Claim7.holds Tryd.pinned (.plain (OpenSpec.upto fnExactFormatCondSpec)) fnExactFormatCondUptoCard

/-- THE SECOND FORM's CARD OF 'laws.FnPatternText'. -/
def fnPatternTextUptoCard : Claim7 := { stood := { row := fnPatternTextUptoRow, standIns := [], harness := (true, "32b9eef5289552e52c59f3459bc27481e26e5ae0787c0d1413cfb3c9d6898a22"), looks := true }, kinds := [], alts := [], laidByText := true, laidKinds := [.data, .pinned], laidTests := true, laidLooks := .later }
def FnPatternTextUptoCardSaid : Prop := Claim7.holds Tryd.pinned (.plain (OpenSpec.upto fnPatternTextSpec)) fnPatternTextUptoCard

/-- THE SECOND FORM's CARD OF 'laws.FnExactParseFact'. -/
def fnExactParseFactUptoCard : Claim7 := { stood := { row := fnExactParseFactUptoRow, standIns := [], harness := (true, "32b9eef5289552e52c59f3459bc27481e26e5ae0787c0d1413cfb3c9d6898a22"), looks := true }, kinds := [], alts := [], laidByText := true, laidKinds := [.data, .pinned], laidTests := true, laidLooks := .later }
def FnExactParseFactUptoCardSaid : Prop := Claim7.holds Tryd.pinned (.plain (OpenSpec.upto fnExactParseFactSpec)) fnExactParseFactUptoCard

/-- THE SECOND FORM's CARD OF 'laws.FnExactParsePattern'. -/
def fnExactParsePatternUptoCard : Claim7 := { stood := { row := fnExactParsePatternUptoRow, standIns := [], harness := (true, "32b9eef5289552e52c59f3459bc27481e26e5ae0787c0d1413cfb3c9d6898a22"), looks := true }, kinds := [], alts := [], laidByText := true, laidKinds := [.data, .pinned], laidTests := true, laidLooks := .later }
def FnExactParsePatternUptoCardSaid : Prop := Claim7.holds Tryd.pinned (.plain (OpenSpec.upto fnExactParsePatternSpec)) fnExactParsePatternUptoCard

/-- THE SECOND FORM's CARD OF 'laws.FnExactParseFacts'. -/
def fnExactParseFactsUptoCard : Claim7 := { stood := { row := fnExactParseFactsUptoRow, standIns := [], harness := (true, "32b9eef5289552e52c59f3459bc27481e26e5ae0787c0d1413cfb3c9d6898a22"), looks := true }, kinds := [], alts := [], laidByText := true, laidKinds := [.data, .pinned], laidTests := true, laidLooks := .later }
def FnExactParseFactsUptoCardSaid : Prop := Claim7.holds Tryd.pinned (.plain (OpenSpec.upto fnExactParseFactsSpec)) fnExactParseFactsUptoCard

/-- THE SECOND FORM's CARD OF 'laws.FnCondText'. -/
def fnCondTextUptoCard : Claim7 := { stood := { row := fnCondTextUptoRow, standIns := [], harness := (true, "32b9eef5289552e52c59f3459bc27481e26e5ae0787c0d1413cfb3c9d6898a22"), looks := true }, kinds := [], alts := [], laidByText := true, laidKinds := [.data, .data, .pinned], laidTests := true, laidLooks := .later }
def FnCondTextUptoCardSaid : Prop := Claim7.holds Tryd.pinned (.plain (OpenSpec.upto fnCondTextSpec)) fnCondTextUptoCard

/-- THE SECOND FORM's CARD OF 'laws.FnAtoms'. -/
def fnAtomsUptoCard : Claim7 := { stood := { row := fnAtomsUptoRow, standIns := [], harness := (true, "32b9eef5289552e52c59f3459bc27481e26e5ae0787c0d1413cfb3c9d6898a22"), looks := true }, kinds := [], alts := [], laidByText := true, laidKinds := [.data, .data, .data, .sentinel, .sentinel], laidTests := true, laidLooks := .later }
def FnAtomsUptoCardSaid : Prop := Claim7.holds Tryd.pinned (.plain (OpenSpec.upto fnAtomsSpec)) fnAtomsUptoCard

/-- THE SECOND FORM's CARD OF 'laws.FnFactText'. -/
def fnFactTextUptoCard : Claim7 := { stood := { row := fnFactTextUptoRow, standIns := [], harness := (true, "32b9eef5289552e52c59f3459bc27481e26e5ae0787c0d1413cfb3c9d6898a22"), looks := true }, kinds := [], alts := [], laidByText := true, laidKinds := [.data, .pinned], laidTests := true, laidLooks := .later }
def FnFactTextUptoCardSaid : Prop := Claim7.holds Tryd.pinned (.plain (OpenSpec.upto fnFactTextSpec)) fnFactTextUptoCard

/-- THE SECOND FORM's CARD OF 'laws.FnSplit'. -/
def fnSplitUptoCard : Claim7 := { stood := { row := fnSplitUptoRow, standIns := [], harness := (true, "32b9eef5289552e52c59f3459bc27481e26e5ae0787c0d1413cfb3c9d6898a22"), looks := true }, kinds := [], alts := [], laidByText := true, laidKinds := [.data, .pinned], laidTests := true, laidLooks := .later }
def FnSplitUptoCardSaid : Prop := Claim7.holds Tryd.pinned (.plain (OpenSpec.upto fnSplitSpec)) fnSplitUptoCard
end Rows
end Go.Proofs.YtbflhchmaoigdaaDoor
