/-
  DERIVED. GIVEN WITH THE SEED: THE CARDS: each row of YtpjklnngigkkiaaDoorRows.lean that lists a variable, with what it lists TIED to the program's text (the seventh form; the later family's looks); each row that meets fmt, with fmt's text TOLD by the authors' own Lean function (tested against real Go, not proved from fmt's source: count such statements apart). THE CARD IS WHAT COUNTS. Prove the row's statement (the work); the ties are given (YtpjklnngigkkiaaDoorTie.lean); close each card by the builder's one call (the guide's Derived/Test/ToyasCard.lean, 'card_holds'). Laid BY PROGRAM, IN A SANDBOX (cutbox-door.mjs). By AI agents, Wed Nov 11 2026. No macro, syntax, notation, axiom, sorry.
-/
import Derived.Test.YtpjklnngigkkiaaDoorRows
import GoSem.ClaimSeven
namespace Go.Proofs.YtpjklnngigkkiaaDoor
namespace Rows

/-- THE TIED CARD OF 'laws.FnExactAddFact'. -/
def fnExactAddFactCard : Claim7 := { stood := { row := fnExactAddFactRow, standIns := [], harness := (true, "9f8ae3a045e1b6df40ee720b19dda026f980a1a7416f17df57f16db4f7e31471"), looks := true }, kinds := [], alts := [], laidByText := true, laidKinds := [.data, .data, .data, .sentinel, .sentinel], laidTests := true, laidLooks := .later }
def FnExactAddFactCardSaid : Prop := Claim7.holds Tryd.pinned (.plain (OpenSpec.ofChange fnExactAddFactSpec)) fnExactAddFactCard

/-- THE TIED CARD OF 'laws.FnNotHas'. -/
def fnNotHasCard : Claim7 := { stood := { row := fnNotHasRow, standIns := [], harness := (true, "9f8ae3a045e1b6df40ee720b19dda026f980a1a7416f17df57f16db4f7e31471"), looks := true }, kinds := [], alts := [], laidByText := true, laidKinds := [.data, .data, .data, .sentinel, .sentinel], laidTests := true, laidLooks := .later }
def FnNotHasCardSaid : Prop := Claim7.holds Tryd.pinned (.plain (OpenSpec.ofChange fnNotHasSpec)) fnNotHasCard

/-- THE TIED CARD OF 'laws.FnExactHoldsCond'. -/
def fnExactHoldsCondCard : Claim7 := { stood := { row := fnExactHoldsCondRow, standIns := [], harness := (true, "9f8ae3a045e1b6df40ee720b19dda026f980a1a7416f17df57f16db4f7e31471"), looks := true }, kinds := [], alts := [], laidByText := true, laidKinds := [.data, .data, .data, .sentinel, .sentinel], laidTests := true, laidLooks := .later }
def FnExactHoldsCondCardSaid : Prop := Claim7.holds Tryd.pinned (.plain (OpenSpec.ofChange fnExactHoldsCondSpec)) fnExactHoldsCondCard

/-- THE TIED CARD OF 'laws.FnFactOrder'. -/
def fnFactOrderCard : Claim7 := { stood := { row := fnFactOrderRow, standIns := [], harness := (true, "9f8ae3a045e1b6df40ee720b19dda026f980a1a7416f17df57f16db4f7e31471"), looks := true }, kinds := [], alts := [], laidByText := true, laidKinds := [.data, .data, .data, .sentinel, .sentinel], laidTests := true, laidLooks := .later }
def FnFactOrderCardSaid : Prop := Claim7.holds Tryd.pinned (.plain (OpenSpec.ofChange fnFactOrderSpec)) fnFactOrderCard

/-- THE TIED CARD OF 'laws.FnTests'. -/
def fnTestsCard : Claim7 := { stood := { row := fnTestsRow, standIns := [], harness := (true, "9f8ae3a045e1b6df40ee720b19dda026f980a1a7416f17df57f16db4f7e31471"), looks := true }, kinds := [], alts := [], laidByText := true, laidKinds := [.data, .data, .data, .sentinel, .sentinel], laidTests := true, laidLooks := .later }
def FnTestsCardSaid : Prop := Claim7.holds Tryd.pinned (.plain (OpenSpec.ofChange fnTestsSpec)) fnTestsCard

/-- THE TIED CARD OF 'laws.FnExactAreFacts'. -/
def fnExactAreFactsCard : Claim7 := { stood := { row := fnExactAreFactsRow, standIns := [], harness := (true, "9f8ae3a045e1b6df40ee720b19dda026f980a1a7416f17df57f16db4f7e31471"), looks := true }, kinds := [], alts := [], laidByText := true, laidKinds := [.data, .data, .data, .sentinel, .sentinel], laidTests := true, laidLooks := .later }
def FnExactAreFactsCardSaid : Prop := Claim7.holds Tryd.pinned (.plain (OpenSpec.ofChange fnExactAreFactsSpec)) fnExactAreFactsCard

/-- THE TIED CARD OF 'laws.FnFactSets'. -/
def fnFactSetsCard : Claim7 := { stood := { row := fnFactSetsRow, standIns := [], harness := (true, "9f8ae3a045e1b6df40ee720b19dda026f980a1a7416f17df57f16db4f7e31471"), looks := true }, kinds := [], alts := [], laidByText := true, laidKinds := [.data, .data, .data, .sentinel, .sentinel], laidTests := true, laidLooks := .later }
def FnFactSetsCardSaid : Prop := Claim7.holds Tryd.pinned (.plain (OpenSpec.ofChange fnFactSetsSpec)) fnFactSetsCard

/-- THE TIED CARD OF 'laws.FnExactHoldsTest'. -/
def fnExactHoldsTestCard : Claim7 := { stood := { row := fnExactHoldsTestRow, standIns := [], harness := (true, "9f8ae3a045e1b6df40ee720b19dda026f980a1a7416f17df57f16db4f7e31471"), looks := true }, kinds := [], alts := [], laidByText := true, laidKinds := [.data, .data, .data, .sentinel, .sentinel], laidTests := true, laidLooks := .later }
def FnExactHoldsTestCardSaid : Prop := Claim7.holds Tryd.pinned (.plain (OpenSpec.ofChange fnExactHoldsTestSpec)) fnExactHoldsTestCard

/-- THE TIED CARD OF 'laws.FnExactRemoveFact'. -/
def fnExactRemoveFactCard : Claim7 := { stood := { row := fnExactRemoveFactRow, standIns := [], harness := (true, "9f8ae3a045e1b6df40ee720b19dda026f980a1a7416f17df57f16db4f7e31471"), looks := true }, kinds := [], alts := [], laidByText := true, laidKinds := [.data, .data, .data, .sentinel, .sentinel], laidTests := true, laidLooks := .later }
def FnExactRemoveFactCardSaid : Prop := Claim7.holds Tryd.pinned (.plain (OpenSpec.ofChange fnExactRemoveFactSpec)) fnExactRemoveFactCard

/-- THE SECOND FORM's CARD OF 'laws.FnExactAddFact'. -/
def fnExactAddFactUptoCard : Claim7 := { stood := { row := fnExactAddFactUptoRow, standIns := [], harness := (true, "9f8ae3a045e1b6df40ee720b19dda026f980a1a7416f17df57f16db4f7e31471"), looks := true }, kinds := [], alts := [], laidByText := true, laidKinds := [.data, .data, .data, .sentinel, .sentinel], laidTests := true, laidLooks := .later }
def FnExactAddFactUptoCardSaid : Prop := Claim7.holds Tryd.pinned (.plain (OpenSpec.upto fnExactAddFactSpec)) fnExactAddFactUptoCard

/-- THE SECOND FORM's CARD OF 'laws.FnNotHas'. -/
def fnNotHasUptoCard : Claim7 := { stood := { row := fnNotHasUptoRow, standIns := [], harness := (true, "9f8ae3a045e1b6df40ee720b19dda026f980a1a7416f17df57f16db4f7e31471"), looks := true }, kinds := [], alts := [], laidByText := true, laidKinds := [.data, .data, .data, .sentinel, .sentinel], laidTests := true, laidLooks := .later }
def FnNotHasUptoCardSaid : Prop := Claim7.holds Tryd.pinned (.plain (OpenSpec.upto fnNotHasSpec)) fnNotHasUptoCard

/-- THE SECOND FORM's CARD OF 'laws.FnExactHoldsCond'. -/
def fnExactHoldsCondUptoCard : Claim7 := { stood := { row := fnExactHoldsCondUptoRow, standIns := [], harness := (true, "9f8ae3a045e1b6df40ee720b19dda026f980a1a7416f17df57f16db4f7e31471"), looks := true }, kinds := [], alts := [], laidByText := true, laidKinds := [.data, .data, .data, .sentinel, .sentinel], laidTests := true, laidLooks := .later }
def FnExactHoldsCondUptoCardSaid : Prop := Claim7.holds Tryd.pinned (.plain (OpenSpec.upto fnExactHoldsCondSpec)) fnExactHoldsCondUptoCard

/-- THE SECOND FORM's CARD OF 'laws.FnFactOrder'. -/
def fnFactOrderUptoCard : Claim7 := { stood := { row := fnFactOrderUptoRow, standIns := [], harness := (true, "9f8ae3a045e1b6df40ee720b19dda026f980a1a7416f17df57f16db4f7e31471"), looks := true }, kinds := [], alts := [], laidByText := true, laidKinds := [.data, .data, .data, .sentinel, .sentinel], laidTests := true, laidLooks := .later }
def FnFactOrderUptoCardSaid : Prop := Claim7.holds Tryd.pinned (.plain (OpenSpec.upto fnFactOrderSpec)) fnFactOrderUptoCard

/-- THE SECOND FORM's CARD OF 'laws.FnTests'. -/
def fnTestsUptoCard : Claim7 := { stood := { row := fnTestsUptoRow, standIns := [], harness := (true, "9f8ae3a045e1b6df40ee720b19dda026f980a1a7416f17df57f16db4f7e31471"), looks := true }, kinds := [], alts := [], laidByText := true, laidKinds := [.data, .data, .data, .sentinel, .sentinel], laidTests := true, laidLooks := .later }
def FnTestsUptoCardSaid : Prop := Claim7.holds Tryd.pinned (.plain (OpenSpec.upto fnTestsSpec)) fnTestsUptoCard

/-- THE SECOND FORM's CARD OF 'laws.FnExactAreFacts'. -/
def fnExactAreFactsUptoCard : Claim7 := { stood := { row := fnExactAreFactsUptoRow, standIns := [], harness := (true, "9f8ae3a045e1b6df40ee720b19dda026f980a1a7416f17df57f16db4f7e31471"), looks := true }, kinds := [], alts := [], laidByText := true, laidKinds := [.data, .data, .data, .sentinel, .sentinel], laidTests := true, laidLooks := .later }
def FnExactAreFactsUptoCardSaid : Prop := Claim7.holds Tryd.pinned (.plain (OpenSpec.upto fnExactAreFactsSpec)) fnExactAreFactsUptoCard

/-- THE SECOND FORM's CARD OF 'laws.FnFactSets'. -/
def fnFactSetsUptoCard : Claim7 := { stood := { row := fnFactSetsUptoRow, standIns := [], harness := (true, "9f8ae3a045e1b6df40ee720b19dda026f980a1a7416f17df57f16db4f7e31471"), looks := true }, kinds := [], alts := [], laidByText := true, laidKinds := [.data, .data, .data, .sentinel, .sentinel], laidTests := true, laidLooks := .later }
def FnFactSetsUptoCardSaid : Prop := Claim7.holds Tryd.pinned (.plain (OpenSpec.upto fnFactSetsSpec)) fnFactSetsUptoCard

/-- THE SECOND FORM's CARD OF 'laws.FnExactHoldsTest'. -/
def fnExactHoldsTestUptoCard : Claim7 := { stood := { row := fnExactHoldsTestUptoRow, standIns := [], harness := (true, "9f8ae3a045e1b6df40ee720b19dda026f980a1a7416f17df57f16db4f7e31471"), looks := true }, kinds := [], alts := [], laidByText := true, laidKinds := [.data, .data, .data, .sentinel, .sentinel], laidTests := true, laidLooks := .later }
def FnExactHoldsTestUptoCardSaid : Prop := Claim7.holds Tryd.pinned (.plain (OpenSpec.upto fnExactHoldsTestSpec)) fnExactHoldsTestUptoCard

/-- THE SECOND FORM's CARD OF 'laws.FnExactRemoveFact'. -/
def fnExactRemoveFactUptoCard : Claim7 := { stood := { row := fnExactRemoveFactUptoRow, standIns := [], harness := (true, "9f8ae3a045e1b6df40ee720b19dda026f980a1a7416f17df57f16db4f7e31471"), looks := true }, kinds := [], alts := [], laidByText := true, laidKinds := [.data, .data, .data, .sentinel, .sentinel], laidTests := true, laidLooks := .later }
def FnExactRemoveFactUptoCardSaid : Prop := Claim7.holds Tryd.pinned (.plain (OpenSpec.upto fnExactRemoveFactSpec)) fnExactRemoveFactUptoCard
end Rows
end Go.Proofs.YtpjklnngigkkiaaDoor
