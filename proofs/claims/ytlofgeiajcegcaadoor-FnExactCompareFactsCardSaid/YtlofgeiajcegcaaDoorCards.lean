/-
  DERIVED. GIVEN WITH THE SEED: THE CARDS: each row of YtlofgeiajcegcaaDoorRows.lean that lists a variable, with what it lists TIED to the program's text (the seventh form; the later family's looks); each row that meets fmt, with fmt's text TOLD by the authors' own Lean function (tested against real Go, not proved from fmt's source: count such statements apart). THE CARD IS WHAT COUNTS. Prove the row's statement (the work); the ties are given (YtlofgeiajcegcaaDoorTie.lean); close each card by the builder's one call (the guide's Derived/Test/ToyasCard.lean, 'card_holds'). Laid BY PROGRAM, IN A SANDBOX (cutbox-door.mjs). By AI agents, Wed Nov 11 2026. No macro, syntax, notation, axiom, sorry.
-/
import Derived.Test.YtlofgeiajcegcaaDoorRows
import GoSem.ClaimSeven
namespace Go.Proofs.YtlofgeiajcegcaaDoor
namespace Rows

/-- THE TIED CARD OF 'laws.FnExactParseInt'. -/
def fnExactParseIntCard : Claim7 := { stood := { row := fnExactParseIntRow, standIns := [], harness := (true, "50cc779278c8c40605a81e194e6b54f2573fffa9c59f3138a60a79a789c622f7"), looks := true }, kinds := [], alts := [], laidByText := true, laidKinds := [.data, .data, .data, .sentinel, .sentinel], laidTests := true, laidLooks := .later }
def FnExactParseIntCardSaid : Prop := Claim7.holds Tryd.pinned (.plain (OpenSpec.ofChange fnExactParseIntSpec)) fnExactParseIntCard

/-- THE TIED CARD OF 'laws.FnExactIsNumber'. -/
def fnExactIsNumberCard : Claim7 := { stood := { row := fnExactIsNumberRow, standIns := [], harness := (true, "50cc779278c8c40605a81e194e6b54f2573fffa9c59f3138a60a79a789c622f7"), looks := true }, kinds := [], alts := [], laidByText := true, laidKinds := [.data, .data, .data, .sentinel, .sentinel], laidTests := true, laidLooks := .later }
def FnExactIsNumberCardSaid : Prop := Claim7.holds Tryd.pinned (.plain (OpenSpec.ofChange fnExactIsNumberSpec)) fnExactIsNumberCard

/-- THE TIED CARD OF 'laws.FnExactCompareAtoms'. -/
def fnExactCompareAtomsCard : Claim7 := { stood := { row := fnExactCompareAtomsRow, standIns := [], harness := (true, "50cc779278c8c40605a81e194e6b54f2573fffa9c59f3138a60a79a789c622f7"), looks := true }, kinds := [], alts := [], laidByText := true, laidKinds := [.data, .data, .data, .sentinel, .sentinel], laidTests := true, laidLooks := .later }
def FnExactCompareAtomsCardSaid : Prop := Claim7.holds Tryd.pinned (.plain (OpenSpec.ofChange fnExactCompareAtomsSpec)) fnExactCompareAtomsCard

/-- THE TIED CARD OF 'laws.FnExactCompareFacts'. -/
def fnExactCompareFactsCard : Claim7 := { stood := { row := fnExactCompareFactsRow, standIns := [], harness := (true, "50cc779278c8c40605a81e194e6b54f2573fffa9c59f3138a60a79a789c622f7"), looks := true }, kinds := [], alts := [], laidByText := true, laidKinds := [.data, .data, .data, .sentinel, .sentinel], laidTests := true, laidLooks := .later }
def FnExactCompareFactsCardSaid : Prop := Claim7.holds Tryd.pinned (.plain (OpenSpec.ofChange fnExactCompareFactsSpec)) fnExactCompareFactsCard

/-- THE SECOND FORM's CARD OF 'laws.FnExactParseInt'. -/
def fnExactParseIntUptoCard : Claim7 := { stood := { row := fnExactParseIntUptoRow, standIns := [], harness := (true, "50cc779278c8c40605a81e194e6b54f2573fffa9c59f3138a60a79a789c622f7"), looks := true }, kinds := [], alts := [], laidByText := true, laidKinds := [.data, .data, .data, .sentinel, .sentinel], laidTests := true, laidLooks := .later }
def FnExactParseIntUptoCardSaid : Prop := Claim7.holds Tryd.pinned (.plain (OpenSpec.upto fnExactParseIntSpec)) fnExactParseIntUptoCard

/-- THE SECOND FORM's CARD OF 'laws.FnExactIsNumber'. -/
def fnExactIsNumberUptoCard : Claim7 := { stood := { row := fnExactIsNumberUptoRow, standIns := [], harness := (true, "50cc779278c8c40605a81e194e6b54f2573fffa9c59f3138a60a79a789c622f7"), looks := true }, kinds := [], alts := [], laidByText := true, laidKinds := [.data, .data, .data, .sentinel, .sentinel], laidTests := true, laidLooks := .later }
def FnExactIsNumberUptoCardSaid : Prop := Claim7.holds Tryd.pinned (.plain (OpenSpec.upto fnExactIsNumberSpec)) fnExactIsNumberUptoCard

/-- THE SECOND FORM's CARD OF 'laws.FnExactCompareAtoms'. -/
def fnExactCompareAtomsUptoCard : Claim7 := { stood := { row := fnExactCompareAtomsUptoRow, standIns := [], harness := (true, "50cc779278c8c40605a81e194e6b54f2573fffa9c59f3138a60a79a789c622f7"), looks := true }, kinds := [], alts := [], laidByText := true, laidKinds := [.data, .data, .data, .sentinel, .sentinel], laidTests := true, laidLooks := .later }
def FnExactCompareAtomsUptoCardSaid : Prop := Claim7.holds Tryd.pinned (.plain (OpenSpec.upto fnExactCompareAtomsSpec)) fnExactCompareAtomsUptoCard

/-- THE SECOND FORM's CARD OF 'laws.FnExactCompareFacts'. -/
def fnExactCompareFactsUptoCard : Claim7 := { stood := { row := fnExactCompareFactsUptoRow, standIns := [], harness := (true, "50cc779278c8c40605a81e194e6b54f2573fffa9c59f3138a60a79a789c622f7"), looks := true }, kinds := [], alts := [], laidByText := true, laidKinds := [.data, .data, .data, .sentinel, .sentinel], laidTests := true, laidLooks := .later }
def FnExactCompareFactsUptoCardSaid : Prop := Claim7.holds Tryd.pinned (.plain (OpenSpec.upto fnExactCompareFactsSpec)) fnExactCompareFactsUptoCard
end Rows
end Go.Proofs.YtlofgeiajcegcaaDoor
