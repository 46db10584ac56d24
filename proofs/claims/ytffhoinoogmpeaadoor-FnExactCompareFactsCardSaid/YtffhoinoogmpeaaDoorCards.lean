/-
  DERIVED. GIVEN WITH THE SEED: THE CARDS: each row of YtffhoinoogmpeaaDoorRows.lean that lists a variable, with what it lists TIED to the program's text (the seventh form; the later family's looks); each row that meets fmt, with fmt's text TOLD by the authors' own Lean function (tested against real Go, not proved from fmt's source: count such statements apart). THE CARD IS WHAT COUNTS. Prove the row's statement (the work); the ties are given (YtffhoinoogmpeaaDoorTie.lean); close each card by the builder's one call (the guide's Derived/Test/ToyasCard.lean, 'card_holds'). Laid BY PROGRAM, IN A SANDBOX (cutbox-door.mjs). By AI agents, Wed Nov 11 2026. No macro, syntax, notation, axiom, sorry.
-/
import Derived.Test.YtffhoinoogmpeaaDoorRows
import GoSem.ClaimSeven
namespace Go.Proofs.YtffhoinoogmpeaaDoor
namespace Rows

/-- THE TIED CARD OF 'laws.FnExactParseFact'. -/
def fnExactParseFactCard : Claim7 := { stood := { row := fnExactParseFactRow, standIns := [], harness := (true, "c0aadb9f46261e0181098c50ddcd2b97810c979a7f200148058bf1433e97c2c1"), looks := true }, kinds := [], alts := [], laidByText := true, laidKinds := [.data, .pinned], laidTests := true, laidLooks := .later }
def FnExactParseFactCardSaid : Prop := Claim7.holds Tryd.pinned (.plain (OpenSpec.ofChange fnExactParseFactSpec)) fnExactParseFactCard

/-- THE TIED CARD OF 'laws.FnExactParsePattern'. -/
def fnExactParsePatternCard : Claim7 := { stood := { row := fnExactParsePatternRow, standIns := [], harness := (true, "c0aadb9f46261e0181098c50ddcd2b97810c979a7f200148058bf1433e97c2c1"), looks := true }, kinds := [], alts := [], laidByText := true, laidKinds := [.data, .pinned], laidTests := true, laidLooks := .later }
def FnExactParsePatternCardSaid : Prop := Claim7.holds Tryd.pinned (.plain (OpenSpec.ofChange fnExactParsePatternSpec)) fnExactParsePatternCard

/-- THE TIED CARD OF 'laws.FnExactParseInt'. -/
def fnExactParseIntCard : Claim7 := { stood := { row := fnExactParseIntRow, standIns := [], harness := (true, "c0aadb9f46261e0181098c50ddcd2b97810c979a7f200148058bf1433e97c2c1"), looks := true }, kinds := [], alts := [], laidByText := true, laidKinds := [.data, .data, .data, .sentinel, .sentinel], laidTests := true, laidLooks := .later }
def FnExactParseIntCardSaid : Prop := Claim7.holds Tryd.pinned (.plain (OpenSpec.ofChange fnExactParseIntSpec)) fnExactParseIntCard

/-- THE TIED CARD OF 'laws.FnExactIsNumber'. -/
def fnExactIsNumberCard : Claim7 := { stood := { row := fnExactIsNumberRow, standIns := [], harness := (true, "c0aadb9f46261e0181098c50ddcd2b97810c979a7f200148058bf1433e97c2c1"), looks := true }, kinds := [], alts := [], laidByText := true, laidKinds := [.data, .data, .data, .sentinel, .sentinel], laidTests := true, laidLooks := .later }
def FnExactIsNumberCardSaid : Prop := Claim7.holds Tryd.pinned (.plain (OpenSpec.ofChange fnExactIsNumberSpec)) fnExactIsNumberCard

/-- THE TIED CARD OF 'laws.FnExactParseFacts'. -/
def fnExactParseFactsCard : Claim7 := { stood := { row := fnExactParseFactsRow, standIns := [], harness := (true, "c0aadb9f46261e0181098c50ddcd2b97810c979a7f200148058bf1433e97c2c1"), looks := true }, kinds := [], alts := [], laidByText := true, laidKinds := [.data, .pinned], laidTests := true, laidLooks := .later }
def FnExactParseFactsCardSaid : Prop := Claim7.holds Tryd.pinned (.plain (OpenSpec.ofChange fnExactParseFactsSpec)) fnExactParseFactsCard

/-- THE TIED CARD OF 'laws.FnCondText'. -/
def fnCondTextCard : Claim7 := { stood := { row := fnCondTextRow, standIns := [], harness := (true, "c0aadb9f46261e0181098c50ddcd2b97810c979a7f200148058bf1433e97c2c1"), looks := true }, kinds := [], alts := [], laidByText := true, laidKinds := [.data, .data, .pinned], laidTests := true, laidLooks := .later }
def FnCondTextCardSaid : Prop := Claim7.holds Tryd.pinned (.plain (OpenSpec.ofChange fnCondTextSpec)) fnCondTextCard

/-- THE TIED CARD OF 'laws.FnExactCompareAtoms'. -/
def fnExactCompareAtomsCard : Claim7 := { stood := { row := fnExactCompareAtomsRow, standIns := [], harness := (true, "c0aadb9f46261e0181098c50ddcd2b97810c979a7f200148058bf1433e97c2c1"), looks := true }, kinds := [], alts := [], laidByText := true, laidKinds := [.data, .data, .data, .sentinel, .sentinel], laidTests := true, laidLooks := .later }
def FnExactCompareAtomsCardSaid : Prop := Claim7.holds Tryd.pinned (.plain (OpenSpec.ofChange fnExactCompareAtomsSpec)) fnExactCompareAtomsCard

/-- THE TIED CARD OF 'laws.FnAtoms'. -/
def fnAtomsCard : Claim7 := { stood := { row := fnAtomsRow, standIns := [], harness := (true, "c0aadb9f46261e0181098c50ddcd2b97810c979a7f200148058bf1433e97c2c1"), looks := true }, kinds := [], alts := [], laidByText := true, laidKinds := [.data, .data, .data, .sentinel, .sentinel], laidTests := true, laidLooks := .later }
def FnAtomsCardSaid : Prop := Claim7.holds Tryd.pinned (.plain (OpenSpec.ofChange fnAtomsSpec)) fnAtomsCard

/-- THE TIED CARD OF 'laws.FnExactParseCond'. -/
def fnExactParseCondCard : Claim7 := { stood := { row := fnExactParseCondRow, standIns := [], harness := (true, "c0aadb9f46261e0181098c50ddcd2b97810c979a7f200148058bf1433e97c2c1"), looks := true }, kinds := [], alts := [], laidByText := true, laidKinds := [.data, .data, .pinned], laidTests := true, laidLooks := .later }
def FnExactParseCondCardSaid : Prop := Claim7.holds Tryd.pinned (.plain (OpenSpec.ofChange fnExactParseCondSpec)) fnExactParseCondCard

/-- THE TIED CARD OF 'laws.FnFactText'. -/
def fnFactTextCard : Claim7 := { stood := { row := fnFactTextRow, standIns := [], harness := (true, "c0aadb9f46261e0181098c50ddcd2b97810c979a7f200148058bf1433e97c2c1"), looks := true }, kinds := [], alts := [], laidByText := true, laidKinds := [.data, .pinned], laidTests := true, laidLooks := .later }
def FnFactTextCardSaid : Prop := Claim7.holds Tryd.pinned (.plain (OpenSpec.ofChange fnFactTextSpec)) fnFactTextCard

/-- THE TIED CARD OF 'laws.FnExactCompareFacts'. -/
def fnExactCompareFactsCard : Claim7 := { stood := { row := fnExactCompareFactsRow, standIns := [], harness := (true, "c0aadb9f46261e0181098c50ddcd2b97810c979a7f200148058bf1433e97c2c1"), looks := true }, kinds := [], alts := [], laidByText := true, laidKinds := [.data, .data, .data, .sentinel, .sentinel], laidTests := true, laidLooks := .later }
def FnExactCompareFactsCardSaid : Prop := Claim7.holds Tryd.pinned (.plain (OpenSpec.ofChange fnExactCompareFactsSpec)) fnExactCompareFactsCard

/-- THE TIED CARD OF 'laws.FnSplit'. -/
def fnSplitCard : Claim7 := { stood := { row := fnSplitRow, standIns := [], harness := (true, "c0aadb9f46261e0181098c50ddcd2b97810c979a7f200148058bf1433e97c2c1"), looks := true }, kinds := [], alts := [], laidByText := true, laidKinds := [.data, .pinned], laidTests := true, laidLooks := .later }
def FnSplitCardSaid : Prop := Claim7.holds Tryd.pinned (.plain (OpenSpec.ofChange fnSplitSpec)) fnSplitCard

/-- THE TIED CARD OF 'laws.FnFactOrder'. -/
def fnFactOrderCard : Claim7 := { stood := { row := fnFactOrderRow, standIns := [], harness := (true, "c0aadb9f46261e0181098c50ddcd2b97810c979a7f200148058bf1433e97c2c1"), looks := true }, kinds := [], alts := [], laidByText := true, laidKinds := [.data, .data, .data, .sentinel, .sentinel], laidTests := true, laidLooks := .later }
def FnFactOrderCardSaid : Prop := Claim7.holds Tryd.pinned (.plain (OpenSpec.ofChange fnFactOrderSpec)) fnFactOrderCard

/-- THE TIED CARD OF 'laws.FnTests'. -/
def fnTestsCard : Claim7 := { stood := { row := fnTestsRow, standIns := [], harness := (true, "c0aadb9f46261e0181098c50ddcd2b97810c979a7f200148058bf1433e97c2c1"), looks := true }, kinds := [], alts := [], laidByText := true, laidKinds := [.data, .data, .data, .sentinel, .sentinel], laidTests := true, laidLooks := .later }
def FnTestsCardSaid : Prop := Claim7.holds Tryd.pinned (.plain (OpenSpec.ofChange fnTestsSpec)) fnTestsCard

/-- THE TIED CARD OF 'laws.FnExactAreFacts'. -/
def fnExactAreFactsCard : Claim7 := { stood := { row := fnExactAreFactsRow, standIns := [], harness := (true, "c0aadb9f46261e0181098c50ddcd2b97810c979a7f200148058bf1433e97c2c1"), looks := true }, kinds := [], alts := [], laidByText := true, laidKinds := [.data, .data, .data, .sentinel, .sentinel], laidTests := true, laidLooks := .later }
def FnExactAreFactsCardSaid : Prop := Claim7.holds Tryd.pinned (.plain (OpenSpec.ofChange fnExactAreFactsSpec)) fnExactAreFactsCard

/-- THE TIED CARD OF 'laws.FnFactSets'. -/
def fnFactSetsCard : Claim7 := { stood := { row := fnFactSetsRow, standIns := [], harness := (true, "c0aadb9f46261e0181098c50ddcd2b97810c979a7f200148058bf1433e97c2c1"), looks := true }, kinds := [], alts := [], laidByText := true, laidKinds := [.data, .data, .data, .sentinel, .sentinel], laidTests := true, laidLooks := .later }
def FnFactSetsCardSaid : Prop := Claim7.holds Tryd.pinned (.plain (OpenSpec.ofChange fnFactSetsSpec)) fnFactSetsCard

/-- THE TIED CARD OF 'laws.FnExactHoldsTest'. -/
def fnExactHoldsTestCard : Claim7 := { stood := { row := fnExactHoldsTestRow, standIns := [], harness := (true, "c0aadb9f46261e0181098c50ddcd2b97810c979a7f200148058bf1433e97c2c1"), looks := true }, kinds := [], alts := [], laidByText := true, laidKinds := [.data, .data, .data, .sentinel, .sentinel], laidTests := true, laidLooks := .later }
def FnExactHoldsTestCardSaid : Prop := Claim7.holds Tryd.pinned (.plain (OpenSpec.ofChange fnExactHoldsTestSpec)) fnExactHoldsTestCard

/-- THE TIED CARD OF 'laws.FnExactRemoveFact'. -/
def fnExactRemoveFactCard : Claim7 := { stood := { row := fnExactRemoveFactRow, standIns := [], harness := (true, "c0aadb9f46261e0181098c50ddcd2b97810c979a7f200148058bf1433e97c2c1"), looks := true }, kinds := [], alts := [], laidByText := true, laidKinds := [.data, .data, .data, .sentinel, .sentinel], laidTests := true, laidLooks := .later }
def FnExactRemoveFactCardSaid : Prop := Claim7.holds Tryd.pinned (.plain (OpenSpec.ofChange fnExactRemoveFactSpec)) fnExactRemoveFactCard

/-- THE SECOND FORM's CARD OF 'laws.FnExactParseFact'. -/
def fnExactParseFactUptoCard : Claim7 := { stood := { row := fnExactParseFactUptoRow, standIns := [], harness := (true, "c0aadb9f46261e0181098c50ddcd2b97810c979a7f200148058bf1433e97c2c1"), looks := true }, kinds := [], alts := [], laidByText := true, laidKinds := [.data, .pinned], laidTests := true, laidLooks := .later }
def FnExactParseFactUptoCardSaid : Prop := Claim7.holds Tryd.pinned (.plain (OpenSpec.upto fnExactParseFactSpec)) fnExactParseFactUptoCard

/-- THE SECOND FORM's CARD OF 'laws.FnExactParsePattern'. -/
def fnExactParsePatternUptoCard : Claim7 := { stood := { row := fnExactParsePatternUptoRow, standIns := [], harness := (true, "c0aadb9f46261e0181098c50ddcd2b97810c979a7f200148058bf1433e97c2c1"), looks := true }, kinds := [], alts := [], laidByText := true, laidKinds := [.data, .pinned], laidTests := true, laidLooks := .later }
def FnExactParsePatternUptoCardSaid : Prop := Claim7.holds Tryd.pinned (.plain (OpenSpec.upto fnExactParsePatternSpec)) fnExactParsePatternUptoCard

/-- THE SECOND FORM's CARD OF 'laws.FnExactParseInt'. -/
def fnExactParseIntUptoCard : Claim7 := { stood := { row := fnExactParseIntUptoRow, standIns := [], harness := (true, "c0aadb9f46261e0181098c50ddcd2b97810c979a7f200148058bf1433e97c2c1"), looks := true }, kinds := [], alts := [], laidByText := true, laidKinds := [.data, .data, .data, .sentinel, .sentinel], laidTests := true, laidLooks := .later }
def FnExactParseIntUptoCardSaid : Prop := Claim7.holds Tryd.pinned (.plain (OpenSpec.upto fnExactParseIntSpec)) fnExactParseIntUptoCard

/-- THE SECOND FORM's CARD OF 'laws.FnExactIsNumber'. -/
def fnExactIsNumberUptoCard : Claim7 := { stood := { row := fnExactIsNumberUptoRow, standIns := [], harness := (true, "c0aadb9f46261e0181098c50ddcd2b97810c979a7f200148058bf1433e97c2c1"), looks := true }, kinds := [], alts := [], laidByText := true, laidKinds := [.data, .data, .data, .sentinel, .sentinel], laidTests := true, laidLooks := .later }
def FnExactIsNumberUptoCardSaid : Prop := Claim7.holds Tryd.pinned (.plain (OpenSpec.upto fnExactIsNumberSpec)) fnExactIsNumberUptoCard

/-- THE SECOND FORM's CARD OF 'laws.FnExactParseFacts'. -/
def fnExactParseFactsUptoCard : Claim7 := { stood := { row := fnExactParseFactsUptoRow, standIns := [], harness := (true, "c0aadb9f46261e0181098c50ddcd2b97810c979a7f200148058bf1433e97c2c1"), looks := true }, kinds := [], alts := [], laidByText := true, laidKinds := [.data, .pinned], laidTests := true, laidLooks := .later }
def FnExactParseFactsUptoCardSaid : Prop := Claim7.holds Tryd.pinned (.plain (OpenSpec.upto fnExactParseFactsSpec)) fnExactParseFactsUptoCard

/-- THE SECOND FORM's CARD OF 'laws.FnCondText'. -/
def fnCondTextUptoCard : Claim7 := { stood := { row := fnCondTextUptoRow, standIns := [], harness := (true, "c0aadb9f46261e0181098c50ddcd2b97810c979a7f200148058bf1433e97c2c1"), looks := true }, kinds := [], alts := [], laidByText := true, laidKinds := [.data, .data, .pinned], laidTests := true, laidLooks := .later }
def FnCondTextUptoCardSaid : Prop := Claim7.holds Tryd.pinned (.plain (OpenSpec.upto fnCondTextSpec)) fnCondTextUptoCard

/-- THE SECOND FORM's CARD OF 'laws.FnExactCompareAtoms'. -/
def fnExactCompareAtomsUptoCard : Claim7 := { stood := { row := fnExactCompareAtomsUptoRow, standIns := [], harness := (true, "c0aadb9f46261e0181098c50ddcd2b97810c979a7f200148058bf1433e97c2c1"), looks := true }, kinds := [], alts := [], laidByText := true, laidKinds := [.data, .data, .data, .sentinel, .sentinel], laidTests := true, laidLooks := .later }
def FnExactCompareAtomsUptoCardSaid : Prop := Claim7.holds Tryd.pinned (.plain (OpenSpec.upto fnExactCompareAtomsSpec)) fnExactCompareAtomsUptoCard

/-- THE SECOND FORM's CARD OF 'laws.FnAtoms'. -/
def fnAtomsUptoCard : Claim7 := { stood := { row := fnAtomsUptoRow, standIns := [], harness := (true, "c0aadb9f46261e0181098c50ddcd2b97810c979a7f200148058bf1433e97c2c1"), looks := true }, kinds := [], alts := [], laidByText := true, laidKinds := [.data, .data, .data, .sentinel, .sentinel], laidTests := true, laidLooks := .later }
def FnAtomsUptoCardSaid : Prop := Claim7.holds Tryd.pinned (.plain (OpenSpec.upto fnAtomsSpec)) fnAtomsUptoCard

/-- THE SECOND FORM's CARD OF 'laws.FnExactParseCond'. -/
def fnExactParseCondUptoCard : Claim7 := { stood := { row := fnExactParseCondUptoRow, standIns := [], harness := (true, "c0aadb9f46261e0181098c50ddcd2b97810c979a7f200148058bf1433e97c2c1"), looks := true }, kinds := [], alts := [], laidByText := true, laidKinds := [.data, .data, .pinned], laidTests := true, laidLooks := .later }
def FnExactParseCondUptoCardSaid : Prop := Claim7.holds Tryd.pinned (.plain (OpenSpec.upto fnExactParseCondSpec)) fnExactParseCondUptoCard

/-- THE SECOND FORM's CARD OF 'laws.FnFactText'. -/
def fnFactTextUptoCard : Claim7 := { stood := { row := fnFactTextUptoRow, standIns := [], harness := (true, "c0aadb9f46261e0181098c50ddcd2b97810c979a7f200148058bf1433e97c2c1"), looks := true }, kinds := [], alts := [], laidByText := true, laidKinds := [.data, .pinned], laidTests := true, laidLooks := .later }
def FnFactTextUptoCardSaid : Prop := Claim7.holds Tryd.pinned (.plain (OpenSpec.upto fnFactTextSpec)) fnFactTextUptoCard

/-- THE SECOND FORM's CARD OF 'laws.FnExactCompareFacts'. -/
def fnExactCompareFactsUptoCard : Claim7 := { stood := { row := fnExactCompareFactsUptoRow, standIns := [], harness := (true, "c0aadb9f46261e0181098c50ddcd2b97810c979a7f200148058bf1433e97c2c1"), looks := true }, kinds := [], alts := [], laidByText := true, laidKinds := [.data, .data, .data, .sentinel, .sentinel], laidTests := true, laidLooks := .later }
def FnExactCompareFactsUptoCardSaid : Prop := Claim7.holds Tryd.pinned (.plain (OpenSpec.upto fnExactCompareFactsSpec)) fnExactCompareFactsUptoCard

/-- THE SECOND FORM's CARD OF 'laws.FnSplit'. -/
def fnSplitUptoCard : Claim7 := { stood := { row := fnSplitUptoRow, standIns := [], harness := (true, "c0aadb9f46261e0181098c50ddcd2b97810c979a7f200148058bf1433e97c2c1"), looks := true }, kinds := [], alts := [], laidByText := true, laidKinds := [.data, .pinned], laidTests := true, laidLooks := .later }
def FnSplitUptoCardSaid : Prop := Claim7.holds Tryd.pinned (.plain (OpenSpec.upto fnSplitSpec)) fnSplitUptoCard

/-- THE SECOND FORM's CARD OF 'laws.FnFactOrder'. -/
def fnFactOrderUptoCard : Claim7 := { stood := { row := fnFactOrderUptoRow, standIns := [], harness := (true, "c0aadb9f46261e0181098c50ddcd2b97810c979a7f200148058bf1433e97c2c1"), looks := true }, kinds := [], alts := [], laidByText := true, laidKinds := [.data, .data, .data, .sentinel, .sentinel], laidTests := true, laidLooks := .later }
def FnFactOrderUptoCardSaid : Prop := Claim7.holds Tryd.pinned (.plain (OpenSpec.upto fnFactOrderSpec)) fnFactOrderUptoCard

/-- THE SECOND FORM's CARD OF 'laws.FnTests'. -/
def fnTestsUptoCard : Claim7 := { stood := { row := fnTestsUptoRow, standIns := [], harness := (true, "c0aadb9f46261e0181098c50ddcd2b97810c979a7f200148058bf1433e97c2c1"), looks := true }, kinds := [], alts := [], laidByText := true, laidKinds := [.data, .data, .data, .sentinel, .sentinel], laidTests := true, laidLooks := .later }
def FnTestsUptoCardSaid : Prop := Claim7.holds Tryd.pinned (.plain (OpenSpec.upto fnTestsSpec)) fnTestsUptoCard

/-- THE SECOND FORM's CARD OF 'laws.FnExactAreFacts'. -/
def fnExactAreFactsUptoCard : Claim7 := { stood := { row := fnExactAreFactsUptoRow, standIns := [], harness := (true, "c0aadb9f46261e0181098c50ddcd2b97810c979a7f200148058bf1433e97c2c1"), looks := true }, kinds := [], alts := [], laidByText := true, laidKinds := [.data, .data, .data, .sentinel, .sentinel], laidTests := true, laidLooks := .later }
def FnExactAreFactsUptoCardSaid : Prop := Claim7.holds Tryd.pinned (.plain (OpenSpec.upto fnExactAreFactsSpec)) fnExactAreFactsUptoCard

/-- THE SECOND FORM's CARD OF 'laws.FnFactSets'. -/
def fnFactSetsUptoCard : Claim7 := { stood := { row := fnFactSetsUptoRow, standIns := [], harness := (true, "c0aadb9f46261e0181098c50ddcd2b97810c979a7f200148058bf1433e97c2c1"), looks := true }, kinds := [], alts := [], laidByText := true, laidKinds := [.data, .data, .data, .sentinel, .sentinel], laidTests := true, laidLooks := .later }
def FnFactSetsUptoCardSaid : Prop := Claim7.holds Tryd.pinned (.plain (OpenSpec.upto fnFactSetsSpec)) fnFactSetsUptoCard

/-- THE SECOND FORM's CARD OF 'laws.FnExactHoldsTest'. -/
def fnExactHoldsTestUptoCard : Claim7 := { stood := { row := fnExactHoldsTestUptoRow, standIns := [], harness := (true, "c0aadb9f46261e0181098c50ddcd2b97810c979a7f200148058bf1433e97c2c1"), looks := true }, kinds := [], alts := [], laidByText := true, laidKinds := [.data, .data, .data, .sentinel, .sentinel], laidTests := true, laidLooks := .later }
def FnExactHoldsTestUptoCardSaid : Prop := Claim7.holds Tryd.pinned (.plain (OpenSpec.upto fnExactHoldsTestSpec)) fnExactHoldsTestUptoCard

/-- THE SECOND FORM's CARD OF 'laws.FnExactRemoveFact'. -/
def fnExactRemoveFactUptoCard : Claim7 := { stood := { row := fnExactRemoveFactUptoRow, standIns := [], harness := (true, "c0aadb9f46261e0181098c50ddcd2b97810c979a7f200148058bf1433e97c2c1"), looks := true }, kinds := [], alts := [], laidByText := true, laidKinds := [.data, .data, .data, .sentinel, .sentinel], laidTests := true, laidLooks := .later }
def FnExactRemoveFactUptoCardSaid : Prop := Claim7.holds Tryd.pinned (.plain (OpenSpec.upto fnExactRemoveFactSpec)) fnExactRemoveFactUptoCard
end Rows
end Go.Proofs.YtffhoinoogmpeaaDoor
